/- The document's programs on plain data: too great to be looked at? Conditions: at most 2^20 of anything. -/
import Derived.Test.YtibdalkdgjghoaaDoorMg29
set_option linter.unusedVariables false
set_option maxRecDepth 100000
set_option maxHeartbeats 8000000
set_option linter.unusedSimpArgs false
namespace Go.Proofs.YtibdalkdgjghoaaDoor
open Go.RowKit
theorem pKidsB:∀(m:Nat) (e:Ex) (left:Int),e.sz≤m→e.sz≤2097152→left≤25→DPure Tryd.prog 25 [.r (Ex.at e),.a (.v (.int .i64 left))] (.a (.v (.bool (e.kidsB left))))
 | 0,e,_,h,_,_=>by have:=e.sz_pos;omega
 | m+1,e,left,h,hz0,hL=>by
  have IH:∀k∈e.kids,DPure Tryd.prog 25 [.r (Ex.at k),.a (.v (.int .i64 (left-1)))] (.a (.v (.bool (k.kidsB (left-1))))):=fun k hk=>pKidsB m k _ (by have:=Ex.kid_lt hk;omega) (by have:=Ex.kid_lt hk;omega) (by omega)
  have hll:=Ex.szs_len e.kids
  have hse:=e.sz_eq
  have hfe:=e.kids_eq left
  rw [Ex.kidssB_any] at hfe
  refine DPure.go Tryd.func25 rfl Tryd.ntmps25 rfl rfl rfl (fun C hro=>?_)
  have fx:=trivial
  repeat' (first|refine stp [0,1,2,4,5,13,18,28] ?_|refine WP.cn (fun hc=>?_) (fun hc=>?_)|fail)
  ·refine bool_eq ?_
   rw [hfe,hc];rfl
  rw [hc,Bool.false_or] at hfe
  have hl0:0≤left:=by simp only [Bool.or_eq_false_iff,decide_eq_false_iff_not] at hc;omega
  have hwl:IntKind.i64.wrap (left-1)=left-1:=wrap64 (by omega) (by omega)
  refine WP.loop (α:={ k:Nat // k≤(e.kids).length∧((e.kids).take k).any ((Ex.kidsB (left-1)))=false }) (fun y=>[(1,.a (.v (.int .i64 left))),(2,.a (.ptr 0 0)),(5,.a (.v (.int .i64 y.1)))]) (fun _=>[.cell (Ex.at e)]) (fun y=>(e.kids).length-y.1) ⟨0,by omega,rfl⟩ (by simp only [Agree,go_sem,simprocAttr]) rfl ?_
  rintro⟨k,hk,hinv⟩
  dsimp only
  by_cases hlt:k<(e.kids).length
  ·have hlt2:decide ((k:Int)<(((e.kids).length:Nat):Int))=true:=decide_eq_true (by omega)
   obtain⟨z,hz⟩:∃z,(e.kids)[k]? = some z:=⟨_,List.getElem?_eq_getElem hlt⟩
   have hzm:z∈(e.kids):=List.mem_of_getElem? hz
   have hzt:=take_snocA hz
   have hix:∀q2,ixD (some 4) q2 (.a (.sl ((e.kids).map Ex.at))) (.a (.v (.int .i64 (k:Int))))=some (.a (.ref (Ex.at z) 0)):=fun q2=>ixD_at rfl (by rw [List.getElem?_map,hz];rfl) (by simp only [go_sem])
   have hw:k<9223372036854775807:=by omega
   skip
   replace fx:=And.intro hlt2 (And.intro hix (And.intro hw (And.intro hwl trivial)))
   repeat' (first|refine stp [0,1,2,4,5,13,18,28] ?_|(refine stc (r1:=by exact IH _ hzm) (r2:=?_);refine rnx ?_)|refine WP.cn (fun hc=>?_) (fun hc=>?_)|fail)
   ·refine bool_eq ?_
    rw [hfe,show (e.kids).any ((Ex.kidsB (left-1)))=true by rw [List.any_eq_true];exact⟨z,hzm,by simpa using hc⟩]
   ·refine⟨⟨k+1,by omega,by rw [hzt,List.any_append,hinv];simpa using hc⟩,by dsimp only;omega,?_,rfl⟩
    simp only [Agree,go_sem,simprocAttr]
  obtain rfl:k=(e.kids).length:=by omega
  rw [List.take_length] at hinv
  have hlt2:decide (((e.kids).length:Int)<((e.kids).length:Int))=false:=decide_eq_false (by omega)
  replace fx:=And.intro hlt2 trivial
  repeat' (first|refine stp [0,1,2,4,5,13,18,28] ?_|refine WP.cn (fun hc=>?_) (fun hc=>?_)|fail)
  exact bool_eq (by rw [hfe,hinv])
theorem pMuch:∀(m:Nat) (s:St) (left:Int),s.sz≤m→s.sz≤2097152→left≤25→DPure Tryd.prog 12 [.r (St.at s),.a (.v (.int .i64 left))] (.a (.v (.bool (s.muchB left))))
 | 0,s,_,h,_,_=>by have:=s.sz_pos;omega
 | m+1,s,left,h,hz0,hL=>by
  have IB:∀k∈s.body,DPure Tryd.prog 12 [.r (St.at k),.a (.v (.int .i64 (left-1)))] (.a (.v (.bool (k.muchB (left-1))))):=fun k hk=>pMuch m k _ (by have:=St.body_lt hk;omega) (by have:=St.body_lt hk;omega) (by omega)
  have IE:∀k∈s.els,DPure Tryd.prog 12 [.r (St.at k),.a (.v (.int .i64 (left-1)))] (.a (.v (.bool (k.muchB (left-1))))):=fun k hk=>pMuch m k _ (by have:=St.els_lt hk;omega) (by have:=St.els_lt hk;omega) (by omega)
  have hse:=s.sz_eq
  have hl1:=St.szs_len s.body
  have hl2:=St.szs_len s.els
  have hl3:=Ex.szs_len s.args
  have hfe:=s.much_eq left
  rw [St.muchsB_any,St.muchsB_any] at hfe
  refine DPure.go Tryd.func12 rfl Tryd.ntmps12 rfl rfl rfl (fun C hro=>?_)
  have fx:=trivial
  repeat' (first|refine stp [0,1,2,4,5,6,7,32,37,45,50,60,65,75] ?_|(refine stc (r1:=by exact pKidsB _ s.e 25 (Nat.le_refl _) (by omega) (by omega)) (r2:=?_);refine rnx ?_)|refine WP.cn (fun hc=>?_) (fun hc=>?_)|fail)
  ·refine bool_eq ?_
   rw [hfe,hc];rfl
  rw [hc,Bool.false_or] at hfe
  have hl0:0≤left:=by simp only [Bool.or_eq_false_iff,decide_eq_false_iff_not] at hc;omega
  have hwl:IntKind.i64.wrap (left-1)=left-1:=wrap64 (by omega) (by omega)
  refine WP.loop (α:={ k:Nat // k≤(s.args).length∧((s.args).take k).any ((Ex.kidsB 25))=false }) (fun y=>[(1,.a (.v (.int .i64 left))),(2,.a (.ptr 0 0)),(5,.a (.v (.int .i64 y.1)))]) (fun _=>[.cell (St.at s)]) (fun y=>(s.args).length-y.1) ⟨0,by omega,rfl⟩ (by simp only [Agree,go_sem,simprocAttr]) rfl ?_
  rintro⟨k,hk,hinv⟩
  dsimp only
  by_cases hlt:k<(s.args).length
  ·have hlt2:decide ((k:Int)<(((s.args).length:Nat):Int))=true:=decide_eq_true (by omega)
   obtain⟨z,hz⟩:∃z,(s.args)[k]? = some z:=⟨_,List.getElem?_eq_getElem hlt⟩
   have hzm:z∈(s.args):=List.mem_of_getElem? hz
   have hzt:=take_snocA hz
   have hix:∀q2,ixD (some 4) q2 (.a (.sl ((s.args).map Ex.at))) (.a (.v (.int .i64 (k:Int))))=some (.a (.ref (Ex.at z) 0)):=fun q2=>ixD_at rfl (by rw [List.getElem?_map,hz];rfl) (by simp only [go_sem])
   have hw:k<9223372036854775807:=by omega
   skip
   replace fx:=And.intro hlt2 (And.intro hix (And.intro hw (And.intro hwl trivial)))
   repeat' (first|refine stp [0,1,2,4,5,6,7,32,37,45,50,60,65,75] ?_|(refine stc (r1:=by exact pKidsB _ z 25 (Nat.le_refl _) (by have:=Ex.szs_mem hzm;omega) (by omega)) (r2:=?_);refine rnx ?_)|refine WP.cn (fun hc=>?_) (fun hc=>?_)|fail)
   ·refine bool_eq ?_
    rw [hfe,show (s.args).any ((Ex.kidsB 25))=true by rw [List.any_eq_true];exact⟨z,hzm,by simpa using hc⟩];rfl
   ·refine⟨⟨k+1,by omega,by rw [hzt,List.any_append,hinv];simpa using hc⟩,by dsimp only;omega,?_,rfl⟩
    simp only [Agree,go_sem,simprocAttr]
  obtain rfl:k=(s.args).length:=by omega
  rw [List.take_length] at hinv
  have hlt2:decide (((s.args).length:Int)<((s.args).length:Int))=false:=decide_eq_false (by omega)
  rw [hinv,Bool.false_or] at hfe
  replace fx:=And.intro hlt2 trivial
  repeat' (first|refine stp [0,1,2,4,5,6,7,32,37,45,50,60,65,75] ?_|refine WP.cn (fun hc=>?_) (fun hc=>?_)|fail)
  refine WP.loop (α:={ k:Nat // k≤(s.body).length∧((s.body).take k).any ((St.muchB (left-1)))=false }) (fun y=>[(1,.a (.v (.int .i64 left))),(2,.a (.ptr 0 0)),(6,.a (.v (.int .i64 y.1)))]) (fun _=>[.cell (St.at s)]) (fun y=>(s.body).length-y.1) ⟨0,by omega,rfl⟩ (by simp only [Agree,go_sem,simprocAttr]) rfl ?_
  rintro⟨k,hk,hinv⟩
  dsimp only
  by_cases hlt:k<(s.body).length
  ·have hlt2:decide ((k:Int)<(((s.body).length:Nat):Int))=true:=decide_eq_true (by omega)
   obtain⟨z,hz⟩:∃z,(s.body)[k]? = some z:=⟨_,List.getElem?_eq_getElem hlt⟩
   have hzm:z∈(s.body):=List.mem_of_getElem? hz
   have hzt:=take_snocA hz
   have hix:∀q2,ixD (some 23) q2 (.a (.sl ((s.body).map St.at))) (.a (.v (.int .i64 (k:Int))))=some (.a (.ref (St.at z) 0)):=fun q2=>ixD_at rfl (by rw [List.getElem?_map,hz];rfl) (by simp only [go_sem])
   have hw:k<9223372036854775807:=by omega
   skip
   replace fx:=And.intro hlt2 (And.intro hix (And.intro hw (And.intro hwl trivial)))
   repeat' (first|refine stp [0,1,2,4,5,6,7,32,37,45,50,60,65,75] ?_|(refine stc (r1:=by exact IB _ hzm) (r2:=?_);refine rnx ?_)|refine WP.cn (fun hc=>?_) (fun hc=>?_)|fail)
   ·refine bool_eq ?_
    rw [hfe,show (s.body).any ((St.muchB (left-1)))=true by rw [List.any_eq_true];exact⟨z,hzm,by simpa using hc⟩];rfl
   ·refine⟨⟨k+1,by omega,by rw [hzt,List.any_append,hinv];simpa using hc⟩,by dsimp only;omega,?_,rfl⟩
    simp only [Agree,go_sem,simprocAttr]
  obtain rfl:k=(s.body).length:=by omega
  rw [List.take_length] at hinv
  have hlt2:decide (((s.body).length:Int)<((s.body).length:Int))=false:=decide_eq_false (by omega)
  rw [hinv,Bool.false_or] at hfe
  replace fx:=And.intro hlt2 trivial
  repeat' (first|refine stp [0,1,2,4,5,6,7,32,37,45,50,60,65,75] ?_|refine WP.cn (fun hc=>?_) (fun hc=>?_)|fail)
  refine WP.loop (α:={ k:Nat // k≤(s.els).length∧((s.els).take k).any ((St.muchB (left-1)))=false }) (fun y=>[(1,.a (.v (.int .i64 left))),(2,.a (.ptr 0 0)),(7,.a (.v (.int .i64 y.1)))]) (fun _=>[.cell (St.at s)]) (fun y=>(s.els).length-y.1) ⟨0,by omega,rfl⟩ (by simp only [Agree,go_sem,simprocAttr]) rfl ?_
  rintro⟨k,hk,hinv⟩
  dsimp only
  by_cases hlt:k<(s.els).length
  ·have hlt2:decide ((k:Int)<(((s.els).length:Nat):Int))=true:=decide_eq_true (by omega)
   obtain⟨z,hz⟩:∃z,(s.els)[k]? = some z:=⟨_,List.getElem?_eq_getElem hlt⟩
   have hzm:z∈(s.els):=List.mem_of_getElem? hz
   have hzt:=take_snocA hz
   have hix:∀q2,ixD (some 23) q2 (.a (.sl ((s.els).map St.at))) (.a (.v (.int .i64 (k:Int))))=some (.a (.ref (St.at z) 0)):=fun q2=>ixD_at rfl (by rw [List.getElem?_map,hz];rfl) (by simp only [go_sem])
   have hw:k<9223372036854775807:=by omega
   skip
   replace fx:=And.intro hlt2 (And.intro hix (And.intro hw (And.intro hwl trivial)))
   repeat' (first|refine stp [0,1,2,4,5,6,7,32,37,45,50,60,65,75] ?_|(refine stc (r1:=by exact IE _ hzm) (r2:=?_);refine rnx ?_)|refine WP.cn (fun hc=>?_) (fun hc=>?_)|fail)
   ·refine bool_eq ?_
    rw [hfe,show (s.els).any ((St.muchB (left-1)))=true by rw [List.any_eq_true];exact⟨z,hzm,by simpa using hc⟩]
   ·refine⟨⟨k+1,by omega,by rw [hzt,List.any_append,hinv];simpa using hc⟩,by dsimp only;omega,?_,rfl⟩
    simp only [Agree,go_sem,simprocAttr]
  obtain rfl:k=(s.els).length:=by omega
  rw [List.take_length] at hinv
  have hlt2:decide (((s.els).length:Int)<((s.els).length:Int))=false:=decide_eq_false (by omega)
  replace fx:=And.intro hlt2 trivial
  repeat' (first|refine stp [0,1,2,4,5,6,7,32,37,45,50,60,65,75] ?_|refine WP.cn (fun hc=>?_) (fun hc=>?_)|fail)
  exact bool_eq (by rw [hfe,hinv])
theorem pUniques (m:Me) (hz:m.sz≤2097152):DPure Tryd.prog 11 [.r (Me.at m)] (.a (.v (.int .i64 m.uniques))):=by
 obtain⟨u1,u2,u3,u4,u5,u6⟩:=Me.szH hz
 have n1:=uniq_le m.params
 have n2:=uniq_le m.locals
 refine DPure.go Tryd.func11 rfl Tryd.ntmps11 rfl rfl rfl (fun C hro=>?_)
 have fx:=trivial
 repeat' (first|refine stp [0,1,2,3,4,5,10,22,29,41] ?_|refine WP.cn (fun hc=>?_) (fun hc=>?_)|fail)
 refine WP.loop (α:={ k:Nat // k≤m.params.length }) (fun y=>[(1,.a (.ptr 0 0)),(3,.a (.v (.int .i64 (sumOf uniq (m.params.take y.1):Nat)))),(4,.a (.v (.int .i64 y.1)))]) (fun _=>[.cell (Me.at m)]) (fun y=>m.params.length-y.1) ⟨0,by omega⟩ (by simp only [Agree,go_sem,simprocAttr,List.take_zero,sumOf,Nat.add_zero]) rfl ?_
 rintro⟨k,hk⟩
 dsimp only
 by_cases hlt:k<m.params.length
 ·have hlt2:decide ((k:Int)<((m.params.length:Nat):Int))=true:=decide_eq_true (by omega)
  obtain⟨z,hz⟩:∃z,m.params[k]? = some z:=⟨_,List.getElem?_eq_getElem hlt⟩
  have hzm:z∈m.params:=List.mem_of_getElem? hz
  have hzt:=take_snocA hz
  have hix:∀q2,ixD (some 13) q2 (.a (.sl (m.params.map Vr.at))) (.a (.v (.int .i64 (k:Int))))=some (.a (.ref (Vr.at z) 0)):=fun q2=>ixD_at rfl (by rw [List.getElem?_map,hz];rfl) (by simp only [go_sem])
  have hw:k<9223372036854775807:=by omega
  have hT:=uniq_le (m.params.take k)
  rw [List.length_take] at hT
  have hwu:=wrap64n (k:=sumOf uniq (m.params.take k)) (by omega)
  replace fx:=And.intro hlt2 (And.intro hix (And.intro hw (And.intro hwu trivial)))
  repeat' (first|refine stp [0,1,2,3,4,5,10,22,29,41] ?_|refine WP.cn (fun hc=>?_) (fun hc=>?_)|fail)
  all_goals
   have hu:uniq z=_:=congrArg (fun b:Bool=>if b=true then 1 else 0) hc
   refine⟨⟨k+1,by omega⟩,by dsimp only;omega,?_,rfl⟩
   simp only [Agree,go_sem,simprocAttr,hzt,sumOf_app,sumOf_one,hu,Bool.false_eq_true,Nat.add_zero,Nat.add_assoc]
 obtain rfl:k=m.params.length:=by omega
 have hlt2:decide ((m.params.length:Int)<(m.params.length:Int))=false:=decide_eq_false (by omega)
 repeat' (first|refine WP.seq ?_|(refine WP.reg [0,1,2,3,4,5,10,22,29,41] (by kernel_rfl) (by kernel_rfl) ?_;refine RS.run2 (by simp only [go_sem,simprocAttr,hlt2,List.take_length,thenQ_n];first|done|rfl) ?_;simp only [RSr_mk])|(first|refine RS.finT (by simp only [go_sem,simprocAttr];first|done|rfl) ?_|refine RS.fin (by simp only [go_sem,simprocAttr];first|done|rfl) ?_;(try simp only [thenQ_n,blockQ_n]))|(refine RS.call (by simp only [go_sem,simprocAttr,hlt2,List.take_length,thenQ_n];first|done|rfl) (by simp only [go_sem,List.all_cons,List.all_nil,Bool.and_true,hlt2,List.take_length,thenQ_n]) (by fail) ?_;refine RS.run2 (by simp only [go_sem,simprocAttr,hlt2,List.take_length,thenQ_n];first|done|rfl) ?_;simp only [RSr_mk])|((refine WP.cond rfl (by simp only [go_sem,simprocAttr,hlt2,List.take_length,thenQ_n];first|done|rfl) (fun hc=>?_) (fun hc=>?_))<;>try exact Bool.noConfusion hc)|(refine WP.skip ?_;(try simp only [thenQ_n,blockQ_n]))|(refine WP.exit ?_;(try simp only [thenQ_e,blockQ_e,blockQ_o,ne_eq,Nat.reduceEqDiff,not_false_eq_true,reduceCtorEq,thenQ_n,blockQ_n]))|refine WP.block ?_|(refine WP.ret ?_;(try simp only [thenQ_r,blockQ_r]);refine ret1 rfl (by simp only [go_sem,simprocAttr,hlt2,List.take_length,thenQ_n];first|done|rfl) (by simp only [go_sem,hlt2,List.take_length,thenQ_n]) ?_)|(fail;simp only [List.take_succ_cons,List.take_zero,List.drop_succ_cons,List.drop_zero,List.take_nil,List.drop_nil];refine RQ.run2 (by simp only [go_sem,simprocAttr,hlt2,List.take_length,thenQ_n];first|done|rfl) ?_;simp only [RQr_mk])|(refine RQ.nil ?_;refine RS.run2 (by simp only [go_sem,simprocAttr,hlt2,List.take_length,thenQ_n];first|done|rfl) ?_;simp only [RSr_mk])|(refine RQ.call (by simp only [go_sem,simprocAttr,hlt2,List.take_length,thenQ_n];first|done|rfl) (by simp only [go_sem,List.all_cons,List.all_nil,Bool.and_true,hlt2,List.take_length,thenQ_n]) (by fail) ?_;refine RQ.run2 (by simp only [go_sem,simprocAttr,hlt2,List.take_length,thenQ_n];first|done|rfl) ?_;simp only [RQr_mk]))
 refine WP.loop (α:={ k:Nat // k≤m.locals.length }) (fun y=>[(1,.a (.ptr 0 0)),(3,.a (.v (.int .i64 (sumOf uniq m.params+sumOf uniq (m.locals.take y.1):Nat)))),(5,.a (.v (.int .i64 y.1)))]) (fun _=>[.cell (Me.at m)]) (fun y=>m.locals.length-y.1) ⟨0,by omega⟩ (by simp only [Agree,go_sem,simprocAttr,List.take_zero,sumOf,Nat.add_zero]) rfl ?_
 rintro⟨k,hk⟩
 dsimp only
 by_cases hlt:k<m.locals.length
 ·have hlt2:decide ((k:Int)<((m.locals.length:Nat):Int))=true:=decide_eq_true (by omega)
  obtain⟨z,hz⟩:∃z,m.locals[k]? = some z:=⟨_,List.getElem?_eq_getElem hlt⟩
  have hzm:z∈m.locals:=List.mem_of_getElem? hz
  have hzt:=take_snocA hz
  have hix:∀q2,ixD (some 13) q2 (.a (.sl (m.locals.map Vr.at))) (.a (.v (.int .i64 (k:Int))))=some (.a (.ref (Vr.at z) 0)):=fun q2=>ixD_at rfl (by rw [List.getElem?_map,hz];rfl) (by simp only [go_sem])
  have hw:k<9223372036854775807:=by omega
  have hT:=uniq_le (m.locals.take k)
  rw [List.length_take] at hT
  have hwu:=wrap64n (k:=sumOf uniq m.params+sumOf uniq (m.locals.take k)) (by omega)
  replace fx:=And.intro hlt2 (And.intro hix (And.intro hw (And.intro hwu trivial)))
  repeat' (first|refine stp [0,1,2,3,4,5,10,22,29,41] ?_|refine WP.cn (fun hc=>?_) (fun hc=>?_)|fail)
  all_goals
   have hu:uniq z=_:=congrArg (fun b:Bool=>if b=true then 1 else 0) hc
   refine⟨⟨k+1,by omega⟩,by dsimp only;omega,?_,rfl⟩
   simp only [Agree,go_sem,simprocAttr,hzt,sumOf_app,sumOf_one,hu,Bool.false_eq_true,Nat.add_zero,Nat.add_assoc]
 obtain rfl:k=m.locals.length:=by omega
 have hlt2:decide ((m.locals.length:Int)<(m.locals.length:Int))=false:=decide_eq_false (by omega)
 repeat' (first|refine WP.seq ?_|(refine WP.reg [0,1,2,3,4,5,10,22,29,41] (by kernel_rfl) (by kernel_rfl) ?_;refine RS.run2 (by simp only [go_sem,simprocAttr,hlt2,List.take_length,thenQ_n];first|done|rfl) ?_;simp only [RSr_mk])|(first|refine RS.finT (by simp only [go_sem,simprocAttr];first|done|rfl) ?_|refine RS.fin (by simp only [go_sem,simprocAttr];first|done|rfl) ?_;(try simp only [thenQ_n,blockQ_n]))|(refine RS.call (by simp only [go_sem,simprocAttr,hlt2,List.take_length,thenQ_n];first|done|rfl) (by simp only [go_sem,List.all_cons,List.all_nil,Bool.and_true,hlt2,List.take_length,thenQ_n]) (by fail) ?_;refine RS.run2 (by simp only [go_sem,simprocAttr,hlt2,List.take_length,thenQ_n];first|done|rfl) ?_;simp only [RSr_mk])|((refine WP.cond rfl (by simp only [go_sem,simprocAttr,hlt2,List.take_length,thenQ_n];first|done|rfl) (fun hc=>?_) (fun hc=>?_))<;>try exact Bool.noConfusion hc)|(refine WP.skip ?_;(try simp only [thenQ_n,blockQ_n]))|(refine WP.exit ?_;(try simp only [thenQ_e,blockQ_e,blockQ_o,ne_eq,Nat.reduceEqDiff,not_false_eq_true,reduceCtorEq,thenQ_n,blockQ_n]))|refine WP.block ?_|(refine WP.ret ?_;(try simp only [thenQ_r,blockQ_r]);refine ret1 rfl (by simp only [go_sem,simprocAttr,hlt2,List.take_length,thenQ_n];first|done|rfl) (by simp only [go_sem,hlt2,List.take_length,thenQ_n]) ?_)|(fail;simp only [List.take_succ_cons,List.take_zero,List.drop_succ_cons,List.drop_zero,List.take_nil,List.drop_nil];refine RQ.run2 (by simp only [go_sem,simprocAttr,hlt2,List.take_length,thenQ_n];first|done|rfl) ?_;simp only [RQr_mk])|(refine RQ.nil ?_;refine RS.run2 (by simp only [go_sem,simprocAttr,hlt2,List.take_length,thenQ_n];first|done|rfl) ?_;simp only [RSr_mk])|(refine RQ.call (by simp only [go_sem,simprocAttr,hlt2,List.take_length,thenQ_n];first|done|rfl) (by simp only [go_sem,List.all_cons,List.all_nil,Bool.and_true,hlt2,List.take_length,thenQ_n]) (by fail) ?_;refine RQ.run2 (by simp only [go_sem,simprocAttr,hlt2,List.take_length,thenQ_n];first|done|rfl) ?_;simp only [RQr_mk]))
 rfl
theorem hvCs_none {t n k:Nat} {l:List Cs} (h:hvCs t n (l.take k)=none):hvCs t n l=none:=by
 rw [←List.take_append_drop k l,hvCs_app,h];rfl
theorem hvMe_none {n k:Nat} {l:List Me} (h:hvMe n (l.take k)=none):hvMe n l=none:=by
 rw [←List.take_append_drop k l,hvMe_app,h];rfl
theorem hvBody_none {n k:Nat} {l:List St} (h:hvBody n (l.take k)=none):hvBody n l=none:=by
 rw [←List.take_append_drop k l,hvBody_app,h];rfl
theorem pHeavy (l:List Cs) (hz:sumOf Cs.sz l≤2097152):DPure Tryd.prog 4 [.a (.sl (l.map Cs.at))] (.a (.v (.bool (heavyB l)))):=by
 have hll:=sumOf_len Cs.sz_pos l
 have b4:sumOf Cs.stmts l≤sumOf Cs.sz l:=sumOf_le _ fun c _=>c.stmts_le
 have hN:hvCs l.length 0 l=none→heavyB l=true:=by intro h;unfold heavyB;rw [h]
 refine DPure.go Tryd.func4 rfl Tryd.ntmps4 rfl rfl rfl (fun C hro=>?_)
 have fx:=trivial
 repeat' (first|refine stp [0,2,3,4,5,6,7,8,12,45,50,78,83,95] ?_|refine WP.cn (fun hc=>?_) (fun hc=>?_)|fail)
 refine WP.loopX (α:={ q:Nat×Nat // q.1≤l.length∧hvCs l.length 0 (l.take q.1)=some q.2 }) (fun y=>[(0,.a (.sl (l.map Cs.at))),(3,.a (.v (.int .i64 (y.1.2:Nat)))),(4,.a (.v (.int .i64 (y.1.1:Nat))))]) (fun _=>[]) (fun y=>l.length-y.1.1) ⟨(0,0),by dsimp only;omega,rfl⟩ (by simp only [Agree,go_sem,simprocAttr];first|done|rfl|exact⟨rfl,rfl⟩) rfl ?_
 rintro⟨⟨k,n⟩,hk,hn⟩
 dsimp only at hk hn ⊢
 have hle:=hvCs_le _ _ _ _ hn
 by_cases hlt:k<l.length
 ·have hlt2:decide ((k:Int)<((l.length:Nat):Int))=true:=decide_eq_true (by omega)
  obtain⟨z,hz⟩:∃z,l[k]? = some z:=⟨_,List.getElem?_eq_getElem hlt⟩
  have hzm:z∈l:=List.mem_of_getElem? hz
  have hzt:=take_snocA hz
  have hix:∀q2,ixD (some 7) q2 (.a (.sl (l.map Cs.at))) (.a (.v (.int .i64 (k:Int))))=some (.a (.ref (Cs.at z) 0)):=fun q2=>ixD_at rfl (by rw [List.getElem?_map,hz];rfl) (by simp only [go_sem])
  have hw:k<9223372036854775807:=by omega
  have hzz:z.sz≤2097152:=by have:=sumOf_mem (f:=Cs.sz) hzm;omega
  obtain⟨y1,y2,y3,y4,y5,y6,y7,y8,y9⟩:=Cs.szH hzz
  have t4:=sumOf_take Cs.stmts l (k+1)
  rw [hzt,sumOf_app,sumOf_one] at t4
  have hstep:hvCs l.length 0 (l.take (k+1))=hvCs l.length n [z]:=by rw [hzt,hvCs_app,hn];rfl
  replace fx:=And.intro hlt2 (And.intro hix (And.intro hw trivial))
  repeat' (first|refine stp [0,2,3,4,5,6,7,8,12,45,50,78,83,95] ?_|refine WP.cn (fun hc=>?_) (fun hc=>?_)|fail)
  ·refine bool_eq ?_
   refine (hN (hvCs_none (k:=k+1) ?_)).symm
   rw [hstep,hvCs,hc];rfl
  have hstep:hvCs l.length 0 (l.take (k+1))=hvMe n z.methods:=by
   rw [hstep,hvCs,hc]
   simp only [cond_false,hvCs]
   cases hvMe n z.methods<;>rfl
  refine WP.loopX (α:={ q:Nat×Nat // q.1≤z.methods.length∧hvMe n (z.methods.take q.1)=some q.2 }) (fun y=>[(0,.a (.sl (l.map Cs.at))),(3,.a (.v (.int .i64 (y.1.2:Nat)))),(4,.a (.v (.int .i64 k))),(5,.a (.ptr 0 0)),(6,.a (.v (.int .i64 (y.1.1:Nat))))]) (fun _=>[.cell (Cs.at z)]) (fun y=>z.methods.length-y.1.1) ⟨(0,n),by dsimp only;omega,rfl⟩ (by simp only [Agree,go_sem,simprocAttr];first|done|rfl|exact⟨rfl,rfl⟩) rfl ?_
  rintro⟨⟨j,n2⟩,hj,hn2⟩
  dsimp only at hj hn2 ⊢
  have hle2:=hvMe_le _ _ _ hn2
  by_cases hlj:j<z.methods.length
  ·have hlt3:decide ((j:Int)<((z.methods.length:Nat):Int))=true:=decide_eq_true (by omega)
   obtain⟨m,hm⟩:∃m,z.methods[j]? = some m:=⟨_,List.getElem?_eq_getElem hlj⟩
   have hmm:m∈z.methods:=List.mem_of_getElem? hm
   have hmt:=take_snocA hm
   have hiz:∀q2,ixD (some 17) q2 (.a (.sl (z.methods.map Me.at))) (.a (.v (.int .i64 (j:Int))))=some (.a (.ref (Me.at m) 0)):=fun q2=>ixD_at rfl (by rw [List.getElem?_map,hm];rfl) (by simp only [go_sem])
   have hw2:j<9223372036854775807:=by omega
   have hmz:m.sz≤2097152:=by have:=sumOf_mem (f:=Me.sz) hmm;omega
   obtain⟨u1,u2,u3,u4,u5,u6⟩:=Me.szH hmz
   have q3:=sumOf_take (fun m:Me=>St.cnts m.body) z.methods (j+1)
   rw [hmt,sumOf_app,sumOf_one] at q3
   have q4:sumOf (fun m:Me=>St.cnts m.body) z.methods=z.stmts:=rfl
   have hbl:=St.szs_len m.body
   have hstep2:hvMe n (z.methods.take (j+1))=hvMe n2 [m]:=by rw [hmt,hvMe_app,hn2];rfl
   replace fx:=And.intro hlt3 (And.intro hix (And.intro hiz (And.intro hw2 trivial)))
   repeat' (first|refine stp [0,2,3,4,5,6,7,8,12,45,50,78,83,95] ?_|(refine stc (r1:=by exact pUniques m hmz) (r2:=?_);refine rnx ?_)|refine WP.cn (fun hc=>?_) (fun hc=>?_)|fail)
   ·refine bool_eq ?_
    refine (hN (hvCs_none (k:=k+1) ?_)).symm
    rw [hstep]
    refine hvMe_none (k:=j+1) ?_
    rw [hstep2,hvMe,hc];rfl
   have hstep2:hvMe n (z.methods.take (j+1))=hvBody n2 m.body:=by
    rw [hstep2,hvMe,hc]
    simp only [cond_false,hvMe]
    cases hvBody n2 m.body<;>rfl
   refine WP.loop (α:={ q:Nat×Nat // q.1≤m.body.length∧hvBody n2 (m.body.take q.1)=some q.2 }) (fun y=>[(0,.a (.sl (l.map Cs.at))),(3,.a (.v (.int .i64 (y.1.2:Nat)))),(4,.a (.v (.int .i64 k))),(5,.a (.ptr 0 0)),(6,.a (.v (.int .i64 j))),(7,.a (.ptr 1 0)),(8,.a (.v (.int .i64 (y.1.1:Nat))))]) (fun _=>[.cell (Cs.at z),.cell (Me.at m)]) (fun y=>m.body.length-y.1.1) ⟨(0,n2),by dsimp only;omega,rfl⟩ (by simp only [Agree,go_sem,simprocAttr];first|done|rfl|exact⟨rfl,rfl⟩) rfl ?_
   rintro⟨⟨i,n3⟩,hi,hn3⟩
   dsimp only at hi hn3 ⊢
   have hle3:=hvBody_le _ _ _ hn3
   by_cases hli:i<m.body.length
   ·have hlt4:decide ((i:Int)<((m.body.length:Nat):Int))=true:=decide_eq_true (by omega)
    obtain⟨s,hs⟩:∃s,m.body[i]? = some s:=⟨_,List.getElem?_eq_getElem hli⟩
    have hsm:s∈m.body:=List.mem_of_getElem? hs
    have hst:=take_snocA hs
    have his:∀q2,ixD (some 23) q2 (.a (.sl (m.body.map St.at))) (.a (.v (.int .i64 (i:Int))))=some (.a (.ref (St.at s) 0)):=fun q2=>ixD_at rfl (by rw [List.getElem?_map,hs];rfl) (by simp only [go_sem])
    have hw3:i<9223372036854775807:=by omega
    have hT:=St.cnts_take m.body (i+1)
    rw [hst,St.cnts_app,St.cnts_one] at hT
    have hwS:=w64 (a:=n3) (b:=s.cnt) rfl (by omega)
    have hstep3:hvBody n2 (m.body.take (i+1))=hvBody n3 [s]:=by rw [hst,hvBody_app,hn3];rfl
    have hsz:s.sz≤2097152:=by have:=St.szs_mem hsm;omega
    replace fx:=And.intro hlt4 (And.intro his (And.intro hw3 (And.intro hwS trivial)))
    repeat' (first|refine stp [0,2,3,4,5,6,7,8,12,45,50,78,83,95] ?_|(refine stc (r1:=by first|exact pMuch _ s 25 (Nat.le_refl _) hsz (by omega)|exact pSize _ s (Nat.le_refl _) hsz) (r2:=?_);refine rnx ?_)|refine WP.cn (fun hc=>?_) (fun hc=>?_)|fail)
    ·refine bool_eq ?_
     refine (hN (hvCs_none (k:=k+1) ?_)).symm
     rw [hstep]
     refine hvMe_none (k:=j+1) ?_
     rw [hstep2]
     refine hvBody_none (k:=i+1) ?_
     rw [hstep3,hvBody,hc];rfl
    ·refine⟨⟨(i+1,n3+s.cnt),by dsimp only;omega,by dsimp only;rw [hstep3,hvBody,hc];rfl⟩,by dsimp only;omega,?_,rfl⟩
     simp only [Agree,go_sem,simprocAttr]
   obtain rfl:i=m.body.length:=by omega
   have hlt4:decide (((m.body.length:Nat):Int)<((m.body.length:Nat):Int))=false:=decide_eq_false (by omega)
   rw [List.take_length] at hn3
   replace fx:=And.intro hlt4 (And.intro hw2 trivial)
   repeat' (first|refine stp [0,2,3,4,5,6,7,8,12,45,50,78,83,95] ?_|refine WP.cn (fun hc=>?_) (fun hc=>?_)|fail)
   refine⟨⟨(j+1,n3),by dsimp only;omega,by dsimp only;rw [hstep2,hn3]⟩,[.cell (Me.at m)],by dsimp only;omega,?_,rfl,rfl,?_⟩
   ·simp only [Agree,go_sem,simprocAttr]
   ·simp only [nrS,go_sem,Bool.and_true]
  obtain rfl:j=z.methods.length:=by omega
  have hlt3:decide (((z.methods.length:Nat):Int)<((z.methods.length:Nat):Int))=false:=decide_eq_false (by omega)
  rw [List.take_length] at hn2
  replace fx:=And.intro hlt3 (And.intro hw trivial)
  repeat' (first|refine stp [0,2,3,4,5,6,7,8,12,45,50,78,83,95] ?_|refine WP.cn (fun hc=>?_) (fun hc=>?_)|fail)
  refine⟨⟨(k+1,n2),by dsimp only;omega,by dsimp only;rw [hstep,hn2]⟩,[.cell (Cs.at z)],by dsimp only;omega,?_,rfl,rfl,rfl⟩
  simp only [Agree,go_sem,simprocAttr]
 obtain rfl:k=l.length:=by omega
 have hlt2:decide ((l.length:Int)<(l.length:Int))=false:=decide_eq_false (by omega)
 rw [List.take_length] at hn
 replace fx:=And.intro hlt2 trivial
 repeat' (first|refine stp [0,2,3,4,5,6,7,8,12,45,50,78,83,95] ?_|refine WP.cn (fun hc=>?_) (fun hc=>?_)|fail)
 refine bool_eq ?_
 unfold heavyB
 rw [hn]
end Go.Proofs.YtibdalkdgjghoaaDoor
