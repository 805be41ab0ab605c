/- The document's statements on plain data. Conditions: at most 2^20 of anything. -/
import Derived.Test.YtfbopaaambkfkaaGreatDoorMg10
import Derived.Test.YtfbopaaambkfkaaGreatDoorMg11
set_option linter.unusedVariables false
set_option maxRecDepth 100000
set_option maxHeartbeats 8000000
set_option linter.unusedSimpArgs false
namespace Go.Proofs.YtfbopaaambkfkaaGreatDoor
theorem ai12 {a b : Prop} (x : a) (y : b) : a ∧ b := ⟨x, y⟩
open Go.RowKit
theorem pSize:∀(m:Nat) (s:St),s.sz≤m→s.sz≤1048576→qaa Tryz.prog 36 [.r (St.at s)] (.a (.v (.int .i64 s.cnt)))
 | 0,s,h,_=>by have:=s.sz_pos;omega
 | m+1,s,h,hz0=>by
  have IB:∀k∈s.body,qaa Tryz.prog 36 [.r (St.at k)] (.a (.v (.int .i64 k.cnt))):=fun k hk=>pSize m k (by have:=St.body_lt hk;omega) (by have:=St.body_lt hk;omega)
  have IE:∀k∈s.els,qaa Tryz.prog 36 [.r (St.at k)] (.a (.v (.int .i64 k.cnt))):=fun k hk=>pSize m k (by have:=St.els_lt hk;omega) (by have:=St.els_lt hk;omega)
  have hse:=s.sz_eq
  have hl1:=St.szs_len s.body
  have hl2:=St.szs_len s.els
  have hce:=s.cnt_eq
  have hcl:=(St.deep_le s.sz s (Nat.le_refl _)).2
  refine qaa.go Tryz.func36 rfl Tryz.ntmps36 rfl rfl rfl (fun C hro=>?_)
  have fx:=trivial
  repeat' (first|refine stp [0,1,2,3,4,5,10,25] ?_|refine WP.cn (fun hc=>?_) (fun hc=>?_)|fail)
  refine WP.loop (α:={ k:Nat // k≤(s.body).length }) (fun y=>[(1,.a (.ptr 0 0)),(3,.a (.v (.int .i64 (1+St.cnts (s.body.take y.1):Nat)))),(4,.a (.v (.int .i64 y.1)))]) (fun _=>[.cell (St.at s)]) (fun y=>(s.body).length-y.1) ⟨0,by omega⟩ (by simp only [qal,go_sem,simprocAttr,List.take_zero,St.cnts,St.cnts_app,St.cnts_one];first|done|(refine congrArg (fun q:Int=>D.a (.v (.int .i64 q))) (by omega))) rfl ?_
  rintro⟨k,hk⟩
  dsimp only
  by_cases hlt:k<(s.body).length
  ·have hlt2:decide ((k:Int)<(((s.body).length:Nat):Int))=true:=decide_eq_true (by omega)
   obtain⟨z,hz⟩:∃z,(s.body)[k]? = some z:=⟨_,List.getElem?_eq_getElem hlt⟩
   have hzm:z∈(s.body):=lm4 hz
   have hzt:=qag hz
   have hix:∀q2,ixD (some 23) q2 (.a (.sl ((s.body).map St.at))) (.a (.v (.int .i64 (k:Int))))=some (.a (.ref (St.at z) 0)):=fun q2=>qar rfl (by rw [List.getElem?_map,hz];rfl) (by simp only [go_sem])
   have hw:k<9223372036854775807:=by omega
   have hT:=St.cnts_take s.body (k+1)
   rw [hzt,St.cnts_app,St.cnts_one] at hT
   have hwS:IntKind.i64.wrap (((1+St.cnts (s.body.take k):Nat):Int)+(z.cnt:Int))=((1+(St.cnts (s.body.take k)+z.cnt):Nat):Int):=by rw [qah (by omega) (by omega)];omega
   replace fx:=ai12 hlt2 (ai12 hix (ai12 hw (ai12 hwS trivial)))
   repeat' (first|refine stp [0,1,2,3,4,5,10,25] ?_|(refine stc (r1:=by exact IB _ hzm) (r2:=?_);refine rnx ?_)|refine WP.cn (fun hc=>?_) (fun hc=>?_)|fail)
   refine⟨⟨k+1,by omega⟩,by dsimp only;omega,?_,rfl⟩
   simp only [qal,go_sem,simprocAttr,hzt,St.cnts,St.cnts_app,St.cnts_one]
   first|done|(refine congrArg (fun q:Int=>D.a (.v (.int .i64 q))) (by omega))
  obtain rfl:k=(s.body).length:=by omega
  have hlt2:decide (((s.body).length:Int)<((s.body).length:Int))=false:=decide_eq_false (by omega)
  repeat' (first|refine WP.seq ?_|(refine WP.reg [0,1,2,3,4,5,10,25] (by kernel_rfl) (by kernel_rfl) ?_;refine RS.run2 (by simp only [go_sem,simprocAttr,hlt2,List.take_length];first|done|rfl) ?_;simp only [qao])|(first|refine RS.finT (by simp only [go_sem,simprocAttr];first|done|rfl) ?_|refine RS.fin (by simp only [go_sem,simprocAttr];first|done|rfl) ?_;(try simp only [qab,qae]))|(refine RS.call (by simp only [go_sem,simprocAttr,hlt2,List.take_length];first|done|rfl) (by simp only [go_sem,List.all_cons,List.all_nil,Bool.and_true,hlt2,List.take_length]) (by fail) ?_;refine RS.run2 (by simp only [go_sem,simprocAttr,hlt2,List.take_length];first|done|rfl) ?_;simp only [qao])|((refine WP.cond rfl (by simp only [go_sem,simprocAttr,hlt2,List.take_length];first|done|rfl) (fun hc=>?_) (fun hc=>?_))<;>try exact Bool.noConfusion hc)|(refine WP.skip ?_;(try simp only [qab,qae]))|(refine WP.exit ?_;(try simp only [qb8,qbj,qbi,ne_eq,Nat.reduceEqDiff,not_false_eq_true,reduceCtorEq,qab,qae]))|refine WP.block ?_|(refine WP.ret ?_;(try simp only [qa1,qaz]);refine ret1 rfl (by simp only [go_sem,simprocAttr,hlt2,List.take_length];first|done|rfl) (by simp only [go_sem,hlt2,List.take_length]) ?_)|(fail;simp only [List.take_succ_cons,List.take_zero,List.drop_succ_cons,List.drop_zero,List.take_nil,List.drop_nil];refine RQ.run2 (by simp only [go_sem,simprocAttr,hlt2,List.take_length];first|done|rfl) ?_;simp only [qat])|(refine RQ.nil ?_;refine RS.run2 (by simp only [go_sem,simprocAttr,hlt2,List.take_length];first|done|rfl) ?_;simp only [qao])|(refine RQ.call (by simp only [go_sem,simprocAttr,hlt2,List.take_length];first|done|rfl) (by simp only [go_sem,List.all_cons,List.all_nil,Bool.and_true,hlt2,List.take_length]) (by fail) ?_;refine RQ.run2 (by simp only [go_sem,simprocAttr,hlt2,List.take_length];first|done|rfl) ?_;simp only [qat]))
  refine WP.loop (α:={ k:Nat // k≤(s.els).length }) (fun y=>[(1,.a (.ptr 0 0)),(3,.a (.v (.int .i64 (1+St.cnts s.body+St.cnts (s.els.take y.1):Nat)))),(5,.a (.v (.int .i64 y.1)))]) (fun _=>[.cell (St.at s)]) (fun y=>(s.els).length-y.1) ⟨0,by omega⟩ (by simp only [qal,go_sem,simprocAttr,List.take_zero,St.cnts,St.cnts_app,St.cnts_one];first|done|(refine congrArg (fun q:Int=>D.a (.v (.int .i64 q))) (by omega))) rfl ?_
  rintro⟨k,hk⟩
  dsimp only
  by_cases hlt:k<(s.els).length
  ·have hlt2:decide ((k:Int)<(((s.els).length:Nat):Int))=true:=decide_eq_true (by omega)
   obtain⟨z,hz⟩:∃z,(s.els)[k]? = some z:=⟨_,List.getElem?_eq_getElem hlt⟩
   have hzm:z∈(s.els):=lm4 hz
   have hzt:=qag hz
   have hix:∀q2,ixD (some 23) q2 (.a (.sl ((s.els).map St.at))) (.a (.v (.int .i64 (k:Int))))=some (.a (.ref (St.at z) 0)):=fun q2=>qar rfl (by rw [List.getElem?_map,hz];rfl) (by simp only [go_sem])
   have hw:k<9223372036854775807:=by omega
   have hT:=St.cnts_take s.els (k+1)
   rw [hzt,St.cnts_app,St.cnts_one] at hT
   have hwS:IntKind.i64.wrap (((1+St.cnts s.body+St.cnts (s.els.take k):Nat):Int)+(z.cnt:Int))=((1+St.cnts s.body+(St.cnts (s.els.take k)+z.cnt):Nat):Int):=by rw [qah (by omega) (by omega)];omega
   replace fx:=ai12 hlt2 (ai12 hix (ai12 hw (ai12 hwS trivial)))
   repeat' (first|refine stp [0,1,2,3,4,5,10,25] ?_|(refine stc (r1:=by exact IE _ hzm) (r2:=?_);refine rnx ?_)|refine WP.cn (fun hc=>?_) (fun hc=>?_)|fail)
   refine⟨⟨k+1,by omega⟩,by dsimp only;omega,?_,rfl⟩
   simp only [qal,go_sem,simprocAttr,hzt,St.cnts,St.cnts_app,St.cnts_one]
   first|done|(refine congrArg (fun q:Int=>D.a (.v (.int .i64 q))) (by omega))
  obtain rfl:k=(s.els).length:=by omega
  have hlt2:decide (((s.els).length:Int)<((s.els).length:Int))=false:=decide_eq_false (by omega)
  repeat' (first|refine WP.seq ?_|(refine WP.reg [0,1,2,3,4,5,10,25] (by kernel_rfl) (by kernel_rfl) ?_;refine RS.run2 (by simp only [go_sem,simprocAttr,hlt2,List.take_length];first|done|rfl) ?_;simp only [qao])|(first|refine RS.finT (by simp only [go_sem,simprocAttr];first|done|rfl) ?_|refine RS.fin (by simp only [go_sem,simprocAttr];first|done|rfl) ?_;(try simp only [qab,qae]))|(refine RS.call (by simp only [go_sem,simprocAttr,hlt2,List.take_length];first|done|rfl) (by simp only [go_sem,List.all_cons,List.all_nil,Bool.and_true,hlt2,List.take_length]) (by fail) ?_;refine RS.run2 (by simp only [go_sem,simprocAttr,hlt2,List.take_length];first|done|rfl) ?_;simp only [qao])|((refine WP.cond rfl (by simp only [go_sem,simprocAttr,hlt2,List.take_length];first|done|rfl) (fun hc=>?_) (fun hc=>?_))<;>try exact Bool.noConfusion hc)|(refine WP.skip ?_;(try simp only [qab,qae]))|(refine WP.exit ?_;(try simp only [qb8,qbj,qbi,ne_eq,Nat.reduceEqDiff,not_false_eq_true,reduceCtorEq,qab,qae]))|refine WP.block ?_|(refine WP.ret ?_;(try simp only [qa1,qaz]);refine ret1 rfl (by simp only [go_sem,simprocAttr,hlt2,List.take_length];first|done|rfl) (by simp only [go_sem,hlt2,List.take_length]) ?_)|(fail;simp only [List.take_succ_cons,List.take_zero,List.drop_succ_cons,List.drop_zero,List.take_nil,List.drop_nil];refine RQ.run2 (by simp only [go_sem,simprocAttr,hlt2,List.take_length];first|done|rfl) ?_;simp only [qat])|(refine RQ.nil ?_;refine RS.run2 (by simp only [go_sem,simprocAttr,hlt2,List.take_length];first|done|rfl) ?_;simp only [qao])|(refine RQ.call (by simp only [go_sem,simprocAttr,hlt2,List.take_length];first|done|rfl) (by simp only [go_sem,List.all_cons,List.all_nil,Bool.and_true,hlt2,List.take_length]) (by fail) ?_;refine RQ.run2 (by simp only [go_sem,simprocAttr,hlt2,List.take_length];first|done|rfl) ?_;simp only [qat]))
  exact ql9 (by omega)
theorem beqF {k c:Int} (h:k≠c):(k==c)=false:=by simpa using h
theorem qkl (l m:List St) (hn:l.length≤1048576) (IH:∀k∈l,∀q,qaa Tryz.prog 98 [.r (St.at k),.r (St.at q)] (.a (.v (.bool (k.sameB q))))):qaa Tryz.prog 74 [.a (.sl (l.map St.at)),.a (.sl (m.map St.at))] (.a (.v (.bool (St.samesB l m)))):=by
 refine qaa.go Tryz.func74 rfl Tryz.ntmps74 rfl rfl rfl (fun C hro=>?_)
 have fx:=trivial
 repeat' (first|refine stp [0,1,4,5,10,14,26] ?_|refine WP.cn (fun hc=>?_) (fun hc=>?_)|((first|refine WP.dw (id:=6) 10 [0,1,4,5,10,14,26] ?_);simp only [qat,List.drop_succ_cons,List.drop_zero,List.drop_nil])|fail)
 ·refine qaf ?_
  rw [St.samesB_len (by intro h;rw [h] at hc;simp at hc)]
 have hl:l.length=m.length:=by simp only [bne_eq_false_iff_eq] at hc;omega
 have hse:=St.samesB_zip hl
 refine WP.loop (α:={ k:Nat // k≤(l).length∧(((l).zip m).take k).all (fun p=>p.1.sameB p.2)=true }) (fun y=>[(0,.a (.sl (l.map St.at))),(1,.a (.sl (m.map St.at))),(5,.a (.v (.int .i64 y.1)))]) (fun _=>[]) (fun y=>(l).length-y.1) ⟨0,by omega,rfl⟩ (by simp only [qal,go_sem,simprocAttr]) rfl ?_
 rintro⟨k,hk,hinv⟩
 dsimp only
 by_cases hlt:k<(l).length
 ·have hlt2:decide ((k:Int)<(((l).length:Nat):Int))=true:=decide_eq_true (by omega)
  obtain⟨z,hz⟩:∃z,(l)[k]? = some z:=⟨_,List.getElem?_eq_getElem hlt⟩
  have hzm:z∈(l):=lm4 hz
  have hzt:=qag hz
  have hix:∀q2,ixD (some 23) q2 (.a (.sl ((l).map St.at))) (.a (.v (.int .i64 (k:Int))))=some (.a (.ref (St.at z) 0)):=fun q2=>qar rfl (by rw [List.getElem?_map,hz];rfl) (by simp only [go_sem])
  obtain⟨v,hv⟩:∃z,(m)[k]? = some z:=⟨_,List.getElem?_eq_getElem (by omega)⟩
  have hvm:v∈(m):=lm4 hv
  have hiy:∀q2,ixD (some 23) q2 (.a (.sl ((m).map St.at))) (.a (.v (.int .i64 (k:Int))))=some (.a (.ref (St.at v) 0)):=fun q2=>qar rfl (by rw [List.getElem?_map,hv];rfl) (by simp only [go_sem])
  have hw:k<9223372036854775807:=by omega
  have hzv:((l).zip m)[k]? = some (z,v):=by rw [List.getElem?_zip_eq_some];exact⟨hz,hv⟩
  skip
  replace fx:=ai12 hlt2 (ai12 hix (ai12 hiy (ai12 hw trivial)))
  repeat' (first|refine stp [0,1,4,5,10,14,26] ?_|(refine stc (r1:=by exact IH _ hzm _) (r2:=?_);refine rnx ?_)|refine WP.cn (fun hc=>?_) (fun hc=>?_)|((first|refine WP.dw (id:=6) 10 [0,1,4,5,10,14,26] ?_);simp only [qat,List.drop_succ_cons,List.drop_zero,List.drop_nil])|fail)
  ·refine qaf ?_
   rw [hse,show (((l).zip m).all fun p=>p.1.sameB p.2)=false by rw [List.all_eq_false];exact⟨(z,v),lm4 hzv,by simpa using hc⟩]
  ·refine⟨⟨k+1,by omega,?_⟩,by dsimp only;omega,?_,rfl⟩
   ·rw [qag hzv,List.all_append,hinv];simpa using hc
   ·simp only [qal,go_sem,simprocAttr]
 obtain rfl:k=(l).length:=by omega
 have hlt2:decide (((l).length:Int)<((l).length:Int))=false:=decide_eq_false (by omega)
 rw [List.take_of_length_le (by rw [List.length_zip];omega)] at hinv
 replace fx:=ai12 hlt2 trivial
 repeat' (first|refine stp [0,1,4,5,10,14,26] ?_|refine WP.cn (fun hc=>?_) (fun hc=>?_)|((first|refine WP.dw (id:=6) 10 [0,1,4,5,10,14,26] ?_);simp only [qat,List.drop_succ_cons,List.drop_zero,List.drop_nil])|fail)
 exact qaf (by rw [hse,hinv])
theorem qkk:∀(m:Nat) (s t:St),s.sz≤m→s.sz≤1048576→qaa Tryz.prog 98 [.r (St.at s),.r (St.at t)] (.a (.v (.bool (s.sameB t))))
 | 0,s,_,h,_=>by have:=s.sz_pos;omega
 | m+1,s,t,h,hz0=>by
  have hse:=s.sz_eq
  have hl1:=St.szs_len s.body
  have hl2:=St.szs_len s.els
  have hl3:=Ex.szs_len s.args
  have IB:qaa Tryz.prog 74 [.a (.sl (s.body.map St.at)),.a (.sl (t.body.map St.at))] (.a (.v (.bool (St.samesB s.body t.body)))):=qkl _ _ (by omega) fun k hk q=>qkk m k q (by have:=St.body_lt hk;omega) (by have:=St.body_lt hk;omega)
  have IE:qaa Tryz.prog 74 [.a (.sl (s.els.map St.at)),.a (.sl (t.els.map St.at))] (.a (.v (.bool (St.samesB s.els t.els)))):=qkl _ _ (by omega) fun k hk q=>qkk m k q (by have:=St.els_lt hk;omega) (by have:=St.els_lt hk;omega)
  have hfe:=s.same_eq t
  refine qaa.go Tryz.func98 rfl Tryz.ntmps98 rfl rfl rfl (fun C hro=>?_)
  have fx:=trivial
  repeat' (first|refine stp [0,1,2,3,4,5,55,60,74] ?_|(refine stc (r1:=by exact pESame _ s.e t.e (Nat.le_refl _) (by omega)) (r2:=?_);refine rnx ?_)|refine WP.cn (fun hc=>?_) (fun hc=>?_)|((first|refine WP.dw (id:=6) 12 [0,1,2,3,4,5,55,60,74] ?_);simp only [qat,List.drop_succ_cons,List.drop_zero,List.drop_nil])|fail)
  ·refine qaf ?_
   rw [hfe]
   by_cases hl:s.args.length=t.args.length
   ·have h4:((s.args.length:Int) != (t.args.length:Int))=false:=by simp [hl]
    rw [h4,Bool.or_false] at hc
    rw [eq_comm]
    cases h1:(s.kind==t.kind)<;>cases h2:(s.x==t.x)<;>cases h3:(s.y==t.y)<;>cases h5:(s.name==t.name)<;>cases h6:decide (s.ty=t.ty)<;>cases h7:s.e.sameB t.e<;>simp_all [bne]
   ·rw [Ex.samesB_len hl];simp
  have hl:s.args.length=t.args.length:=by
   simp only [Bool.or_eq_false_iff,bne_eq_false_iff_eq] at hc;omega
  have hfe:s.sameB t=((s.args.zip t.args).all (fun p=>p.1.sameB p.2)&&(St.samesB s.body t.body&&St.samesB s.els t.els)):=by
   rw [hfe,Ex.samesB_zip hl]
   simp only [Bool.or_eq_false_iff,bne_eq_false_iff_eq,Bool.not_eq_false'] at hc
   obtain⟨⟨⟨⟨⟨⟨h1,h2⟩,h3⟩,h4⟩,h5⟩,h6⟩,_⟩:=hc
   rw [h2,h3,h4,h5,h6,h1]
   simp only [BEq.rfl,Bool.true_and]
  refine WP.loop (α:={ k:Nat // k≤(s.args).length∧(((s.args).zip t.args).take k).all (fun p=>p.1.sameB p.2)=true }) (fun y=>[(2,.a (.ptr 0 0)),(3,.a (.ptr 1 0)),(5,.a (.v (.int .i64 y.1)))]) (fun _=>[.cell (St.at s),.cell (St.at t)]) (fun y=>(s.args).length-y.1) ⟨0,by omega,rfl⟩ (by simp only [qal,go_sem,simprocAttr]) rfl ?_
  rintro⟨k,hk,hinv⟩
  dsimp only
  by_cases hlt:k<(s.args).length
  ·have hlt2:decide ((k:Int)<(((s.args).length:Nat):Int))=true:=decide_eq_true (by omega)
   obtain⟨z,hz⟩:∃z,(s.args)[k]? = some z:=⟨_,List.getElem?_eq_getElem hlt⟩
   have hzm:z∈(s.args):=lm4 hz
   have hzt:=qag hz
   have hix:∀q2,ixD (some 4) q2 (.a (.sl ((s.args).map Ex.at))) (.a (.v (.int .i64 (k:Int))))=some (.a (.ref (Ex.at z) 0)):=fun q2=>qar rfl (by rw [List.getElem?_map,hz];rfl) (by simp only [go_sem])
   obtain⟨v,hv⟩:∃z,(t.args)[k]? = some z:=⟨_,List.getElem?_eq_getElem (by omega)⟩
   have hvm:v∈(t.args):=lm4 hv
   have hiy:∀q2,ixD (some 4) q2 (.a (.sl ((t.args).map Ex.at))) (.a (.v (.int .i64 (k:Int))))=some (.a (.ref (Ex.at v) 0)):=fun q2=>qar rfl (by rw [List.getElem?_map,hv];rfl) (by simp only [go_sem])
   have hw:k<9223372036854775807:=by omega
   have hzv:((s.args).zip t.args)[k]? = some (z,v):=by rw [List.getElem?_zip_eq_some];exact⟨hz,hv⟩
   skip
   replace fx:=ai12 hlt2 (ai12 hix (ai12 hiy (ai12 hw trivial)))
   repeat' (first|refine stp [0,1,2,3,4,5,55,60,74] ?_|(refine stc (r1:=by exact pESame _ z v (Nat.le_refl _) (by have:=Ex.szs_mem hzm;omega)) (r2:=?_);refine rnx ?_)|refine WP.cn (fun hc=>?_) (fun hc=>?_)|((first|refine WP.dw (id:=6) 12 [0,1,2,3,4,5,55,60,74] ?_);simp only [qat,List.drop_succ_cons,List.drop_zero,List.drop_nil])|fail)
   ·refine qaf ?_
    rw [hfe,show (((s.args).zip t.args).all fun p=>p.1.sameB p.2)=false by rw [List.all_eq_false];exact⟨(z,v),lm4 hzv,by simpa using hc⟩];rfl
   ·refine⟨⟨k+1,by omega,?_⟩,by dsimp only;omega,?_,rfl⟩
    ·rw [qag hzv,List.all_append,hinv];simpa using hc
    ·simp only [qal,go_sem,simprocAttr]
  obtain rfl:k=(s.args).length:=by omega
  have hlt2:decide (((s.args).length:Int)<((s.args).length:Int))=false:=decide_eq_false (by omega)
  rw [List.take_of_length_le (by rw [List.length_zip];omega)] at hinv
  rw [hinv,Bool.true_and] at hfe
  replace fx:=ai12 hlt2 trivial
  repeat' (first|refine stp [0,1,2,3,4,5,55,60,74] ?_|(refine stc (r1:=by first|exact IB|exact IE) (r2:=?_);refine rnx ?_)|refine WP.cn (fun hc=>?_) (fun hc=>?_)|((first|refine WP.dw (id:=6) 12 [0,1,2,3,4,5,55,60,74] ?_);simp only [qat,List.drop_succ_cons,List.drop_zero,List.drop_nil])|fail)
  exact qaf (by rw [hfe])
theorem zlen {α:Type} {l m:List α} (q:α×α→Bool) (h:l.length≠m.length):(l.length==m.length&&(l.zip m).all q)=false:=by
 rw [show (l.length==m.length)=false by simpa using h];rfl
theorem zeql {α:Type} {l m:List α} (q:α×α→Bool) (h:l.length=m.length):(l.length==m.length&&(l.zip m).all q)=(l.zip m).all q:=by
 rw [show (l.length==m.length)=true by simpa using h];rfl
theorem lenB {a b:Nat} (hc:((a:Int) != (b:Int))=true):a≠b:=by rintro rfl;simp at hc
theorem lenE {a b:Nat} (hc:((a:Int) != (b:Int))=false):a=b:=by simp only [bne_eq_false_iff_eq] at hc;omega
theorem pVars (l m:List Vr) (q:Bool) (hn:l.length≤1048576):qaa Tryz.prog 44 [.a (.sl (l.map Vr.at)),.a (.sl (m.map Vr.at)),.a (.v (.bool q))] (.a (.v (.bool (qa4 q l m)))):=by
 refine qaa.go Tryz.func44 rfl Tryz.ntmps44 rfl rfl rfl (fun C hro=>?_)
 have fx:=trivial
 repeat' (first|refine stp [0,1,2,6,7,12,16,58] ?_|refine WP.cn (fun hc=>?_) (fun hc=>?_)|((first|refine WP.dw (id:=6) 40 [0,1,2,6,7,12,16,58] ?_);simp only [qat,List.drop_succ_cons,List.drop_zero,List.drop_nil])|fail)
 ·refine qaf ?_
  unfold qa4
  rw [zlen _ (lenB hc)]
 have hl:=lenE hc
 have hse:qa4 q l m=(l.zip m).all (fun p=>p.1.sameB q p.2):=zeql _ hl
 refine WP.loop (α:={ k:Nat // k≤(l).length∧(((l).zip m).take k).all (fun p=>p.1.sameB q p.2)=true }) (fun y=>[(0,.a (.sl (l.map Vr.at))),(1,.a (.sl (m.map Vr.at))),(2,.a (.v (.bool q))),(7,.a (.v (.int .i64 y.1)))]) (fun _=>[]) (fun y=>(l).length-y.1) ⟨0,by omega,rfl⟩ (by simp only [qal,go_sem,simprocAttr]) rfl ?_
 rintro⟨k,hk,hinv⟩
 dsimp only
 by_cases hlt:k<(l).length
 ·have hlt2:decide ((k:Int)<(((l).length:Nat):Int))=true:=decide_eq_true (by omega)
  obtain⟨z,hz⟩:∃z,(l)[k]? = some z:=⟨_,List.getElem?_eq_getElem hlt⟩
  have hzm:z∈(l):=lm4 hz
  have hzt:=qag hz
  have hix:∀q2,ixD (some 13) q2 (.a (.sl ((l).map Vr.at))) (.a (.v (.int .i64 (k:Int))))=some (.a (.ref (Vr.at z) 0)):=fun q2=>qar rfl (by rw [List.getElem?_map,hz];rfl) (by simp only [go_sem])
  obtain⟨v,hv⟩:∃z,(m)[k]? = some z:=⟨_,List.getElem?_eq_getElem (by omega)⟩
  have hvm:v∈(m):=lm4 hv
  have hiy:∀q2,ixD (some 13) q2 (.a (.sl ((m).map Vr.at))) (.a (.v (.int .i64 (k:Int))))=some (.a (.ref (Vr.at v) 0)):=fun q2=>qar rfl (by rw [List.getElem?_map,hv];rfl) (by simp only [go_sem])
  have hw:k<9223372036854775807:=by omega
  have hzv:((l).zip m)[k]? = some (z,v):=by rw [List.getElem?_zip_eq_some];exact⟨hz,hv⟩
  skip
  replace fx:=ai12 hlt2 (ai12 hix (ai12 hiy (ai12 hw trivial)))
  repeat' (first|refine stp [0,1,2,6,7,12,16,58] ?_|refine WP.cn (fun hc=>?_) (fun hc=>?_)|((first|refine WP.dw (id:=6) 40 [0,1,2,6,7,12,16,58] ?_);simp only [qat,List.drop_succ_cons,List.drop_zero,List.drop_nil])|fail)
  ·refine qaf ?_
   rw [hse,show (((l).zip m).all fun p=>p.1.sameB q p.2)=false by rw [List.all_eq_false];exact⟨(z,v),lm4 hzv,by simp only [Vr.sameB,List.all_cons,List.all_nil,Bool.and_true,Bool.true_and];revert hc;cases (z.name==v.name)<;>cases decide (z.ty=v.ty)<;>cases q<;>cases (z.at_ != v.at_)<;>simp⟩]
  ·refine⟨⟨k+1,by omega,?_⟩,by dsimp only;omega,?_,rfl⟩
   ·rw [qag hzv,List.all_append,hinv];simp only [Vr.sameB,List.all_cons,List.all_nil,Bool.and_true,Bool.true_and];revert hc;cases (z.name==v.name)<;>cases decide (z.ty=v.ty)<;>cases q<;>cases (z.at_ != v.at_)<;>simp
   ·simp only [qal,go_sem,simprocAttr]
 obtain rfl:k=(l).length:=by omega
 have hlt2:decide (((l).length:Int)<((l).length:Int))=false:=decide_eq_false (by omega)
 rw [List.take_of_length_le (by rw [List.length_zip];omega)] at hinv
 replace fx:=ai12 hlt2 trivial
 repeat' (first|refine stp [0,1,2,6,7,12,16,58] ?_|refine WP.cn (fun hc=>?_) (fun hc=>?_)|((first|refine WP.dw (id:=6) 40 [0,1,2,6,7,12,16,58] ?_);simp only [qat,List.drop_succ_cons,List.drop_zero,List.drop_nil])|fail)
 exact qaf (by rw [hse,hinv])
theorem pAts (l m:List St) (hz0:St.szs l≤1048576):qaa Tryz.prog 73 [.a (.sl (l.map St.at)),.a (.sl (m.map St.at))] (.a (.v (.bool (St.atsB l m)))):=by
  have hll:=St.szs_len l
  have IH:∀k∈l,∀q,qaa Tryz.prog 73 [.a (.sl (k.body.map St.at)),.a (.sl (List.map St.at q))] (.a (.v (.bool (St.atsB k.body q)))):=fun k hk q=>pAts k.body q (by have:=St.szs_mem hk;have:=k.sz_eq;omega)
  have IE:∀k∈l,∀q,qaa Tryz.prog 73 [.a (.sl (k.els.map St.at)),.a (.sl (List.map St.at q))] (.a (.v (.bool (St.atsB k.els q)))):=fun k hk q=>pAts k.els q (by have:=St.szs_mem hk;have:=k.sz_eq;omega)
  refine qaa.go Tryz.func73 rfl Tryz.ntmps73 rfl rfl rfl (fun C hro=>?_)
  have fx:=trivial
  repeat' (first|refine stp [0,1,4,5,10,14,55] ?_|refine WP.cn (fun hc=>?_) (fun hc=>?_)|((first|refine WP.dw (id:=6) 39 [0,1,4,5,10,14,55] ?_);simp only [qat,List.drop_succ_cons,List.drop_zero,List.drop_nil])|fail)
  ·refine qaf ?_
   rw [St.atsB_len (lenB hc)]
  have hl:=lenE hc
  have hse:=St.atsB_zip hl
  refine WP.loop (α:={ k:Nat // k≤(l).length∧(((l).zip m).take k).all (fun p=>p.1.atB p.2)=true }) (fun y=>[(0,.a (.sl (l.map St.at))),(1,.a (.sl (m.map St.at))),(5,.a (.v (.int .i64 y.1)))]) (fun _=>[]) (fun y=>(l).length-y.1) ⟨0,by omega,rfl⟩ (by simp only [qal,go_sem,simprocAttr]) rfl ?_
  rintro⟨k,hk,hinv⟩
  dsimp only
  by_cases hlt:k<(l).length
  ·have hlt2:decide ((k:Int)<(((l).length:Nat):Int))=true:=decide_eq_true (by omega)
   obtain⟨z,hz⟩:∃z,(l)[k]? = some z:=⟨_,List.getElem?_eq_getElem hlt⟩
   have hzm:z∈(l):=lm4 hz
   have hzt:=qag hz
   have hix:∀q2,ixD (some 23) q2 (.a (.sl ((l).map St.at))) (.a (.v (.int .i64 (k:Int))))=some (.a (.ref (St.at z) 0)):=fun q2=>qar rfl (by rw [List.getElem?_map,hz];rfl) (by simp only [go_sem])
   obtain⟨v,hv⟩:∃z,(m)[k]? = some z:=⟨_,List.getElem?_eq_getElem (by omega)⟩
   have hvm:v∈(m):=lm4 hv
   have hiy:∀q2,ixD (some 23) q2 (.a (.sl ((m).map St.at))) (.a (.v (.int .i64 (k:Int))))=some (.a (.ref (St.at v) 0)):=fun q2=>qar rfl (by rw [List.getElem?_map,hv];rfl) (by simp only [go_sem])
   have hw:k<9223372036854775807:=by omega
   have hzv:((l).zip m)[k]? = some (z,v):=by rw [List.getElem?_zip_eq_some];exact⟨hz,hv⟩
   skip
   replace fx:=ai12 hlt2 (ai12 hix (ai12 hiy (ai12 hw trivial)))
   repeat' (first|refine stp [0,1,4,5,10,14,55] ?_|(refine stc (r1:=by first|exact IH _ hzm _|exact IE _ hzm _) (r2:=?_);refine rnx ?_)|refine WP.cn (fun hc=>?_) (fun hc=>?_)|((first|refine WP.dw (id:=6) 39 [0,1,4,5,10,14,55] ?_);simp only [qat,List.drop_succ_cons,List.drop_zero,List.drop_nil])|fail)
   ·refine qaf ?_
    rw [hse,show (((l).zip m).all fun p=>p.1.atB p.2)=false by rw [List.all_eq_false];exact⟨(z,v),lm4 hzv,by simp only [St.at_eq,List.all_cons,List.all_nil,Bool.and_true,Bool.true_and];unfold bne at hc;revert hc;cases (z.at_==v.at_)<;>cases St.atsB z.body v.body<;>cases St.atsB z.els v.els<;>simp⟩]
   ·refine⟨⟨k+1,by omega,?_⟩,by dsimp only;omega,?_,rfl⟩
    ·rw [qag hzv,List.all_append,hinv];simp only [St.at_eq,List.all_cons,List.all_nil,Bool.and_true,Bool.true_and];unfold bne at hc;revert hc;cases (z.at_==v.at_)<;>cases St.atsB z.body v.body<;>cases St.atsB z.els v.els<;>simp
    ·simp only [qal,go_sem,simprocAttr]
  obtain rfl:k=(l).length:=by omega
  have hlt2:decide (((l).length:Int)<((l).length:Int))=false:=decide_eq_false (by omega)
  rw [List.take_of_length_le (by rw [List.length_zip];omega)] at hinv
  replace fx:=ai12 hlt2 trivial
  repeat' (first|refine stp [0,1,4,5,10,14,55] ?_|refine WP.cn (fun hc=>?_) (fun hc=>?_)|((first|refine WP.dw (id:=6) 39 [0,1,4,5,10,14,55] ?_);simp only [qat,List.drop_succ_cons,List.drop_zero,List.drop_nil])|fail)
  exact qaf (by rw [hse,hinv])
 termination_by St.szs l
 decreasing_by all_goals (have:=St.szs_mem hk;have:=k.sz_eq;omega)
theorem pLike (a b:Me) (q:Bool) (hz:a.sz≤1048576):qaa Tryz.prog 43 [.r (Me.at a),.r (Me.at b),.a (.v (.bool q))] (.a (.v (.bool (a.likeB q b)))):=by
 obtain⟨z1,z2,z3,z4,z5,z6⟩:=Me.szH hz
 have hl1:=St.szs_len a.body
 refine qaa.go Tryz.func43 rfl Tryz.ntmps43 rfl rfl rfl (fun C hro=>?_)
 have fx:=trivial
 repeat' (first|refine stp [0,1,2,3,4,6,43] ?_|(refine stc (r1:=by first|exact pAts _ _ z5|exact pVars _ _ _ (by omega)|exact qkl _ _ (by omega) fun k hk q=>qkk _ k q (Nat.le_refl _) (by have:=St.szs_mem hk;omega)) (r2:=?_);refine rnx ?_)|refine WP.cn (fun hc=>?_) (fun hc=>?_)|fail)
 all_goals
  refine qaf ?_
  unfold Me.likeB
  rw [hc];rfl
theorem pOne (a b:Cs) (q:Bool) (hz:a.sz≤1048576):qaa Tryz.prog 22 [.r (Cs.at a),.r (Cs.at b),.a (.v (.bool q))] (.a (.v (.bool (a.oneB q b)))):=by
 obtain⟨z1,z2,z3,z4,z5,z6,z7,z8,z9⟩:=Cs.szH hz
 refine qaa.go Tryz.func22 rfl Tryz.ntmps22 rfl rfl rfl (fun C hro=>?_)
 have fx:=trivial
 repeat' (first|refine stp [0,1,2,3,4,6,7,8,9,58,63,76,81,94,99,114] ?_|refine WP.cn (fun hc=>?_) (fun hc=>?_)|((first|refine WP.dw (id:=6) 11 [0,1,2,3,4,6,7,8,9,58,63,76,81,94,99,114] ?_|refine WP.dw (id:=11) 11 [0,1,2,3,4,6,7,8,9,58,63,76,81,94,99,114] ?_|refine WP.dw (id:=16) 13 [0,1,2,3,4,6,7,8,9,58,63,76,81,94,99,114] ?_);simp only [qat,List.drop_succ_cons,List.drop_zero,List.drop_nil])|fail)
 ·refine qaf ?_
  unfold Cs.oneB
  rw [hc];rfl
 have hse:a.oneB q b=((a.params.zip b.params).all (fun p=>p.1==p.2)&&((a.above.zip b.above).all (fun p=>p.1==p.2)&&((a.methods.zip b.methods).all (fun p=>p.1.likeB q p.2)&&qa4 q a.fields b.fields))):=by
  unfold Cs.oneB
  rw [hc];rfl
 simp only [Bool.or_eq_false_iff] at hc
 have la:=lenE hc.1.1.1.2
 have lb:=lenE hc.1.1.2
 have lc:=lenE hc.1.2
 refine WP.loop (α:={ k:Nat // k≤(a.params).length∧(((a.params).zip b.params).take k).all (fun p=>p.1==p.2)=true }) (fun y=>[(2,.a (.v (.bool q))),(3,.a (.ptr 0 0)),(4,.a (.ptr 1 0)),(7,.a (.v (.int .i64 y.1)))]) (fun _=>[.cell (Cs.at a),.cell (Cs.at b)]) (fun y=>(a.params).length-y.1) ⟨0,by omega,rfl⟩ (by simp only [qal,go_sem,simprocAttr]) rfl ?_
 rintro⟨k,hk,hinv⟩
 dsimp only
 by_cases hlt:k<(a.params).length
 ·have hlt2:decide ((k:Int)<(((a.params).length:Nat):Int))=true:=decide_eq_true (by omega)
  obtain⟨z,hz⟩:∃z,(a.params)[k]? = some z:=⟨_,List.getElem?_eq_getElem hlt⟩
  have hzm:z∈(a.params):=lm4 hz
  have hzt:=qag hz
  have hix:∀q2,ixD (some 1) q2 (.a (.sl ((a.params).map qaj))) (.a (.v (.int .i64 (k:Int))))=some (.a (.ref (qaj z) 0)):=fun q2=>qar rfl (by rw [List.getElem?_map,hz];rfl) (by simp only [go_sem])
  obtain⟨v,hv⟩:∃z,(b.params)[k]? = some z:=⟨_,List.getElem?_eq_getElem (by omega)⟩
  have hvm:v∈(b.params):=lm4 hv
  have hiy:∀q2,ixD (some 1) q2 (.a (.sl ((b.params).map qaj))) (.a (.v (.int .i64 (k:Int))))=some (.a (.ref (qaj v) 0)):=fun q2=>qar rfl (by rw [List.getElem?_map,hv];rfl) (by simp only [go_sem])
  have hw:k<9223372036854775807:=by omega
  have hzv:((a.params).zip b.params)[k]? = some (z,v):=by rw [List.getElem?_zip_eq_some];exact⟨hz,hv⟩
  skip
  replace fx:=ai12 hlt2 (ai12 hix (ai12 hiy (ai12 hw trivial)))
  repeat' (first|refine stp [0,1,2,3,4,6,7,8,9,58,63,76,81,94,99,114] ?_|refine WP.cn (fun hc=>?_) (fun hc=>?_)|((first|refine WP.dw (id:=6) 11 [0,1,2,3,4,6,7,8,9,58,63,76,81,94,99,114] ?_|refine WP.dw (id:=11) 11 [0,1,2,3,4,6,7,8,9,58,63,76,81,94,99,114] ?_|refine WP.dw (id:=16) 13 [0,1,2,3,4,6,7,8,9,58,63,76,81,94,99,114] ?_);simp only [qat,List.drop_succ_cons,List.drop_zero,List.drop_nil])|fail)
  ·refine qaf ?_
   rw [hse,show (((a.params).zip b.params).all fun p=>p.1==p.2)=false by rw [List.all_eq_false];exact⟨(z,v),lm4 hzv,by simpa using hc⟩];rfl
  ·refine⟨⟨k+1,by omega,?_⟩,by dsimp only;omega,?_,rfl⟩
   ·rw [qag hzv,List.all_append,hinv];simpa using hc
   ·simp only [qal,go_sem,simprocAttr]
 obtain rfl:k=(a.params).length:=by omega
 have hlt2:decide (((a.params).length:Int)<((a.params).length:Int))=false:=decide_eq_false (by omega)
 rw [List.take_of_length_le (by rw [List.length_zip];omega)] at hinv
 rw [hinv,Bool.true_and] at hse
 replace fx:=ai12 hlt2 trivial
 repeat' (first|refine stp [0,1,2,3,4,6,7,8,9,58,63,76,81,94,99,114] ?_|refine WP.cn (fun hc=>?_) (fun hc=>?_)|((first|refine WP.dw (id:=6) 11 [0,1,2,3,4,6,7,8,9,58,63,76,81,94,99,114] ?_|refine WP.dw (id:=11) 11 [0,1,2,3,4,6,7,8,9,58,63,76,81,94,99,114] ?_|refine WP.dw (id:=16) 13 [0,1,2,3,4,6,7,8,9,58,63,76,81,94,99,114] ?_);simp only [qat,List.drop_succ_cons,List.drop_zero,List.drop_nil])|fail)
 refine WP.loop (α:={ k:Nat // k≤(a.above).length∧(((a.above).zip b.above).take k).all (fun p=>p.1==p.2)=true }) (fun y=>[(2,.a (.v (.bool q))),(3,.a (.ptr 0 0)),(4,.a (.ptr 1 0)),(8,.a (.v (.int .i64 y.1)))]) (fun _=>[.cell (Cs.at a),.cell (Cs.at b)]) (fun y=>(a.above).length-y.1) ⟨0,by omega,rfl⟩ (by simp only [qal,go_sem,simprocAttr]) rfl ?_
 rintro⟨k,hk,hinv⟩
 dsimp only
 by_cases hlt:k<(a.above).length
 ·have hlt2:decide ((k:Int)<(((a.above).length:Nat):Int))=true:=decide_eq_true (by omega)
  obtain⟨z,hz⟩:∃z,(a.above)[k]? = some z:=⟨_,List.getElem?_eq_getElem hlt⟩
  have hzm:z∈(a.above):=lm4 hz
  have hzt:=qag hz
  have hix:∀q2,ixD (some 2) q2 (.a (.sl ((a.above).map owAt))) (.a (.v (.int .i64 (k:Int))))=some (.a (.ref (owAt z) 0)):=fun q2=>qar rfl (by rw [List.getElem?_map,hz];rfl) (by simp only [go_sem])
  obtain⟨v,hv⟩:∃z,(b.above)[k]? = some z:=⟨_,List.getElem?_eq_getElem (by omega)⟩
  have hvm:v∈(b.above):=lm4 hv
  have hiy:∀q2,ixD (some 2) q2 (.a (.sl ((b.above).map owAt))) (.a (.v (.int .i64 (k:Int))))=some (.a (.ref (owAt v) 0)):=fun q2=>qar rfl (by rw [List.getElem?_map,hv];rfl) (by simp only [go_sem])
  have hw:k<9223372036854775807:=by omega
  have hzv:((a.above).zip b.above)[k]? = some (z,v):=by rw [List.getElem?_zip_eq_some];exact⟨hz,hv⟩
  skip
  replace fx:=ai12 hlt2 (ai12 hix (ai12 hiy (ai12 hw trivial)))
  repeat' (first|refine stp [0,1,2,3,4,6,7,8,9,58,63,76,81,94,99,114] ?_|refine WP.cn (fun hc=>?_) (fun hc=>?_)|((first|refine WP.dw (id:=6) 11 [0,1,2,3,4,6,7,8,9,58,63,76,81,94,99,114] ?_|refine WP.dw (id:=11) 11 [0,1,2,3,4,6,7,8,9,58,63,76,81,94,99,114] ?_|refine WP.dw (id:=16) 13 [0,1,2,3,4,6,7,8,9,58,63,76,81,94,99,114] ?_);simp only [qat,List.drop_succ_cons,List.drop_zero,List.drop_nil])|fail)
  ·refine qaf ?_
   rw [hse,show (((a.above).zip b.above).all fun p=>p.1==p.2)=false by rw [List.all_eq_false];exact⟨(z,v),lm4 hzv,by simpa using hc⟩];rfl
  ·refine⟨⟨k+1,by omega,?_⟩,by dsimp only;omega,?_,rfl⟩
   ·rw [qag hzv,List.all_append,hinv];simpa using hc
   ·simp only [qal,go_sem,simprocAttr]
 obtain rfl:k=(a.above).length:=by omega
 have hlt2:decide (((a.above).length:Int)<((a.above).length:Int))=false:=decide_eq_false (by omega)
 rw [List.take_of_length_le (by rw [List.length_zip];omega)] at hinv
 rw [hinv,Bool.true_and] at hse
 replace fx:=ai12 hlt2 trivial
 repeat' (first|refine stp [0,1,2,3,4,6,7,8,9,58,63,76,81,94,99,114] ?_|refine WP.cn (fun hc=>?_) (fun hc=>?_)|((first|refine WP.dw (id:=6) 11 [0,1,2,3,4,6,7,8,9,58,63,76,81,94,99,114] ?_|refine WP.dw (id:=11) 11 [0,1,2,3,4,6,7,8,9,58,63,76,81,94,99,114] ?_|refine WP.dw (id:=16) 13 [0,1,2,3,4,6,7,8,9,58,63,76,81,94,99,114] ?_);simp only [qat,List.drop_succ_cons,List.drop_zero,List.drop_nil])|fail)
 refine WP.loop (α:={ k:Nat // k≤(a.methods).length∧(((a.methods).zip b.methods).take k).all (fun p=>p.1.likeB q p.2)=true }) (fun y=>[(2,.a (.v (.bool q))),(3,.a (.ptr 0 0)),(4,.a (.ptr 1 0)),(9,.a (.v (.int .i64 y.1)))]) (fun _=>[.cell (Cs.at a),.cell (Cs.at b)]) (fun y=>(a.methods).length-y.1) ⟨0,by omega,rfl⟩ (by simp only [qal,go_sem,simprocAttr]) rfl ?_
 rintro⟨k,hk,hinv⟩
 dsimp only
 by_cases hlt:k<(a.methods).length
 ·have hlt2:decide ((k:Int)<(((a.methods).length:Nat):Int))=true:=decide_eq_true (by omega)
  obtain⟨z,hz⟩:∃z,(a.methods)[k]? = some z:=⟨_,List.getElem?_eq_getElem hlt⟩
  have hzm:z∈(a.methods):=lm4 hz
  have hzt:=qag hz
  have hix:∀q2,ixD (some 17) q2 (.a (.sl ((a.methods).map Me.at))) (.a (.v (.int .i64 (k:Int))))=some (.a (.ref (Me.at z) 0)):=fun q2=>qar rfl (by rw [List.getElem?_map,hz];rfl) (by simp only [go_sem])
  obtain⟨v,hv⟩:∃z,(b.methods)[k]? = some z:=⟨_,List.getElem?_eq_getElem (by omega)⟩
  have hvm:v∈(b.methods):=lm4 hv
  have hiy:∀q2,ixD (some 17) q2 (.a (.sl ((b.methods).map Me.at))) (.a (.v (.int .i64 (k:Int))))=some (.a (.ref (Me.at v) 0)):=fun q2=>qar rfl (by rw [List.getElem?_map,hv];rfl) (by simp only [go_sem])
  have hw:k<9223372036854775807:=by omega
  have hzv:((a.methods).zip b.methods)[k]? = some (z,v):=by rw [List.getElem?_zip_eq_some];exact⟨hz,hv⟩
  skip
  replace fx:=ai12 hlt2 (ai12 hix (ai12 hiy (ai12 hw trivial)))
  repeat' (first|refine stp [0,1,2,3,4,6,7,8,9,58,63,76,81,94,99,114] ?_|(refine stc (r1:=by exact pLike z v q (by have:=qa5 (f:=Me.sz) hzm;omega)) (r2:=?_);refine rnx ?_)|refine WP.cn (fun hc=>?_) (fun hc=>?_)|((first|refine WP.dw (id:=6) 11 [0,1,2,3,4,6,7,8,9,58,63,76,81,94,99,114] ?_|refine WP.dw (id:=11) 11 [0,1,2,3,4,6,7,8,9,58,63,76,81,94,99,114] ?_|refine WP.dw (id:=16) 13 [0,1,2,3,4,6,7,8,9,58,63,76,81,94,99,114] ?_);simp only [qat,List.drop_succ_cons,List.drop_zero,List.drop_nil])|fail)
  ·refine qaf ?_
   rw [hse,show (((a.methods).zip b.methods).all fun p=>p.1.likeB q p.2)=false by rw [List.all_eq_false];exact⟨(z,v),lm4 hzv,by simpa using hc⟩];rfl
  ·refine⟨⟨k+1,by omega,?_⟩,by dsimp only;omega,?_,rfl⟩
   ·rw [qag hzv,List.all_append,hinv];simpa using hc
   ·simp only [qal,go_sem,simprocAttr]
 obtain rfl:k=(a.methods).length:=by omega
 have hlt2:decide (((a.methods).length:Int)<((a.methods).length:Int))=false:=decide_eq_false (by omega)
 rw [List.take_of_length_le (by rw [List.length_zip];omega)] at hinv
 rw [hinv,Bool.true_and] at hse
 replace fx:=ai12 hlt2 trivial
 repeat' (first|refine stp [0,1,2,3,4,6,7,8,9,58,63,76,81,94,99,114] ?_|(refine stc (r1:=by exact pVars _ _ _ (by omega)) (r2:=?_);refine rnx ?_)|refine WP.cn (fun hc=>?_) (fun hc=>?_)|((first|refine WP.dw (id:=6) 11 [0,1,2,3,4,6,7,8,9,58,63,76,81,94,99,114] ?_|refine WP.dw (id:=11) 11 [0,1,2,3,4,6,7,8,9,58,63,76,81,94,99,114] ?_|refine WP.dw (id:=16) 13 [0,1,2,3,4,6,7,8,9,58,63,76,81,94,99,114] ?_);simp only [qat,List.drop_succ_cons,List.drop_zero,List.drop_nil])|fail)
 exact qaf (by rw [hse])
theorem pLikes (l m:List Cs) (q:Bool) (hz:qai Cs.sz l≤1048576):qaa Tryz.prog 8 [.a (.sl (l.map Cs.at)),.a (.sl (m.map Cs.at)),.a (.v (.bool q))] (.a (.v (.bool (likeB q l m)))):=by
 have hn:=qax Cs.sz_pos l
 refine qaa.go Tryz.func8 rfl Tryz.ntmps8 rfl rfl rfl (fun C hro=>?_)
 have fx:=trivial
 repeat' (first|refine stp [0,1,2,6,7,12,16,29] ?_|refine WP.cn (fun hc=>?_) (fun hc=>?_)|((first|refine WP.dw (id:=6) 11 [0,1,2,6,7,12,16,29] ?_);simp only [qat,List.drop_succ_cons,List.drop_zero,List.drop_nil])|fail)
 ·refine qaf ?_
  unfold likeB
  rw [zlen _ (lenB hc)]
 have hl:=lenE hc
 have hse:likeB q l m=(l.zip m).all (fun p=>p.1.oneB q p.2):=zeql _ hl
 refine WP.loop (α:={ k:Nat // k≤(l).length∧(((l).zip m).take k).all (fun p=>p.1.oneB q p.2)=true }) (fun y=>[(0,.a (.sl (l.map Cs.at))),(1,.a (.sl (m.map Cs.at))),(2,.a (.v (.bool q))),(7,.a (.v (.int .i64 y.1)))]) (fun _=>[]) (fun y=>(l).length-y.1) ⟨0,by omega,rfl⟩ (by simp only [qal,go_sem,simprocAttr]) rfl ?_
 rintro⟨k,hk,hinv⟩
 dsimp only
 by_cases hlt:k<(l).length
 ·have hlt2:decide ((k:Int)<(((l).length:Nat):Int))=true:=decide_eq_true (by omega)
  obtain⟨z,hz⟩:∃z,(l)[k]? = some z:=⟨_,List.getElem?_eq_getElem hlt⟩
  have hzm:z∈(l):=lm4 hz
  have hzt:=qag hz
  have hix:∀q2,ixD (some 7) q2 (.a (.sl ((l).map Cs.at))) (.a (.v (.int .i64 (k:Int))))=some (.a (.ref (Cs.at z) 0)):=fun q2=>qar rfl (by rw [List.getElem?_map,hz];rfl) (by simp only [go_sem])
  obtain⟨v,hv⟩:∃z,(m)[k]? = some z:=⟨_,List.getElem?_eq_getElem (by omega)⟩
  have hvm:v∈(m):=lm4 hv
  have hiy:∀q2,ixD (some 7) q2 (.a (.sl ((m).map Cs.at))) (.a (.v (.int .i64 (k:Int))))=some (.a (.ref (Cs.at v) 0)):=fun q2=>qar rfl (by rw [List.getElem?_map,hv];rfl) (by simp only [go_sem])
  have hw:k<9223372036854775807:=by omega
  have hzv:((l).zip m)[k]? = some (z,v):=by rw [List.getElem?_zip_eq_some];exact⟨hz,hv⟩
  skip
  replace fx:=ai12 hlt2 (ai12 hix (ai12 hiy (ai12 hw trivial)))
  repeat' (first|refine stp [0,1,2,6,7,12,16,29] ?_|(refine stc (r1:=by exact pOne z v q (by have:=qa5 (f:=Cs.sz) hzm;omega)) (r2:=?_);refine rnx ?_)|refine WP.cn (fun hc=>?_) (fun hc=>?_)|((first|refine WP.dw (id:=6) 11 [0,1,2,6,7,12,16,29] ?_);simp only [qat,List.drop_succ_cons,List.drop_zero,List.drop_nil])|fail)
  ·refine qaf ?_
   rw [hse,show (((l).zip m).all fun p=>p.1.oneB q p.2)=false by rw [List.all_eq_false];exact⟨(z,v),lm4 hzv,by simpa using hc⟩]
  ·refine⟨⟨k+1,by omega,?_⟩,by dsimp only;omega,?_,rfl⟩
   ·rw [qag hzv,List.all_append,hinv];simpa using hc
   ·simp only [qal,go_sem,simprocAttr]
 obtain rfl:k=(l).length:=by omega
 have hlt2:decide (((l).length:Int)<((l).length:Int))=false:=decide_eq_false (by omega)
 rw [List.take_of_length_le (by rw [List.length_zip];omega)] at hinv
 replace fx:=ai12 hlt2 trivial
 repeat' (first|refine stp [0,1,2,6,7,12,16,29] ?_|refine WP.cn (fun hc=>?_) (fun hc=>?_)|((first|refine WP.dw (id:=6) 11 [0,1,2,6,7,12,16,29] ?_);simp only [qat,List.drop_succ_cons,List.drop_zero,List.drop_nil])|fail)
 exact qaf (by rw [hse,hinv])
end Go.Proofs.YtfbopaaambkfkaaGreatDoor
