/- The rules of the walk once more: the lesser premises are reckoned where a rule is used, with the facts that are named fx there. No program in sight. Conditions: none. -/
import Derived.Test.YthkojpnjdpbcgaaGreatDoorMl6
set_option linter.unusedVariables false
set_option maxRecDepth 100000
set_option maxHeartbeats 8000000
set_option linter.unusedSimpArgs false
namespace Go.Proofs.YthkojpnjdpbcgaaGreatDoor
open Go.RowKit
section
variable {P:Program} {C:Cx P} {n:Nat} {Q:Exit→(Nat→D)→List Bx→Prop} {N:(Nat→D)→List Bx→Prop} {e e':Nat→D} {st:List Bx} {ops:Array Oper} {ks:List Nat} {l r:List Oper} {id:Nat} {K:(Nat→D)→List Bx→Prop} {KQ:(Nat→D)→Prop} {dst:Option Nat} {ty:TypeId} {pos:String} {after:Array Edge} {guard:Option (Nat×Bool)} {ds:List D} {d d':D} {f:FuncId} {xs:List Operand} {tys:Array TypeId} {z:Value} {y:Operand} {caps:List A} {t:Nat} {q:(Nat→D)×List Bx×List Oper} {q2:(Nat→D)×List Oper}
theorem WP.rg (ks:List Nat) (h:RSr C ⟨l⟩ q fun e' st'=>Q .normal (qa7 e' ks) st') (hs:qfl ⟨l⟩ n=true:=by kernel_rfl) (hk:ksOk ⟨l⟩ ks=true:=by kernel_rfl) (hr:runS P l e st=q:=by (simp only [go_sem,simprocAttr,fx])<;>rfl):WP C n (.region id ⟨l⟩ false) Q e st:=WP.reg ks hs hk (RS.run2 hr h)
theorem RS.rn (h:RSr C ops q K) (hr:runS P l e st=q:=by (simp only [go_sem,simprocAttr,fx])<;>rfl):RS C ops l e st K:=RS.run2 hr h
theorem RQ.rn (h:RQr P ops st q2 KQ) (hr:runQ P st l e=q2:=by (simp only [go_sem,simprocAttr,fx])<;>rfl):RQ P ops st l e KQ:=RQ.run2 hr h
theorem RS.fnT (h:N e' st) (he:qa7 e ks=e':=by (simp only [go_sem,simprocAttr])<;>rfl):RS C ops [] e st fun e' st'=>qdi N Q .normal (qa7 e' ks) st':=RS.finT he h
theorem RS.fn (h:Q .normal e' st) (he:qa7 e ks=e':=by (simp only [go_sem,simprocAttr])<;>rfl):RS C ops [] e st fun e' st'=>Q .normal (qa7 e' ks) st':=RS.fin he h
theorem RS.cl (hx:xs.map (evO e)=ds:=by (simp only [go_sem,simprocAttr,fx])<;>rfl) (hc:ds.all clD=true:=by simp only [go_sem,List.all_cons,List.all_nil,Bool.and_true,fx]) (hp:qaa P f ds d) (h:RS C ops r (putE e dst d) st K):RS C ops (⟨dst,.call ⟨.value (.func f),⟨xs⟩,tys⟩,ty,pos,after,guard⟩::r) e st K:=RS.call hx hc hp h
theorem WP.cn {c:Operand} {p q:Code} {b:Bool} (ht:b=true→WP C n p Q e st) (hf:b=false→WP C n q Q e st) (hl:opLt n c=true:=by rfl) (hc:evO e c=.a (.v (.bool b)):=by (simp only [go_sem,simprocAttr,fx])<;>rfl):WP C n (.cond c p q) Q e st:=WP.cond hl hc ht hf
theorem ret3 (h:d'=d) (ht:decide (t<n)=true:=by rfl) (he:qc9 st (e t)=d':=by (simp only [go_sem,simprocAttr,fx])<;>rfl) (hc:clD1 d'=true:=by simp only [go_sem,fx]):retN P n [.tmp t] d .ret e st:=ret1 ht he hc h
theorem retC3 {T:TypeId} {i off:Nat} {row:List A} {k:Option Nat} {d0:D} (h:d'=d) (ht:decide (t<n)=true:=by rfl) (he:e t=.a (.ptr i off):=by (simp only [go_sem,simprocAttr,fx])<;>rfl) (hs:st[i]? = some (.cell row):=by (simp only [go_sem,simprocAttr,fx])<;>rfl) (hk:ldk P T=some k:=by (simp only [go_sem])<;>rfl) (hd:qae k row off=some d0:=by (simp only [go_sem,simprocAttr,fx])<;>rfl) (hse:qc9 st d0=d':=by (simp only [go_sem,simprocAttr,fx])<;>rfl) (hc:clD1 d'=true:=by simp only [go_sem,fx]):retN P n [.cell t T] d .ret e st:=retC ht he hs hk hd hse hc h
theorem RS.sA {T:TypeId} {x:Operand} {lo hi mx:Option Operand} {row:List A} {off len sz l h m:Nat} {rows:List (List A)} (hx:evO e x=.a (.ref row off):=by (simp only [go_sem,simprocAttr,fx])<;>rfl) (ha:ar P T=some (len,sz):=by (simp only [go_sem])<;>rfl) (hs:(!mx.isSome||hi.isSome)=true:=by rfl) (h0:bndD e mx len=some m:=by (simp only [go_sem,simprocAttr,bndD,fx])<;>rfl) (h1:bndD e hi m=some h:=by (simp only [go_sem,simprocAttr,bndD,fx])<;>rfl) (h2:lowD e lo h=some l:=by (simp only [go_sem,simprocAttr,bndD,lowD,fx])<;>rfl) (hr:off+h*sz≤row.length:=by simp only [go_sem,simprocAttr,fx];first|done|decide|omega) (hc:qd8 row off sz l h=rows) (k:RS C ops r (putE e dst (.a (.sl rows))) st K):RS C ops (⟨dst,.slice T x lo hi mx,ty,pos,after,guard⟩::r) e st K:=RS.sliceA hx ha hs h0 h1 h2 hr hc k
theorem WP.dw (m:Nat) (ks:List Nat) (h:RQr P ⟨l⟩ st q2 fun e'=>RS C ⟨l⟩ (l.drop m) e' st fun e'' st''=>Q .normal (qa7 e'' ks) st'') (hd:qhk ⟨l⟩ n m=true:=by kernel_rfl) (hms:decide (m≤l.length)=true:=by rfl) (hk:ksOk ⟨l⟩ ks=true:=by kernel_rfl) (hmix:P.follows .mixedOrders=true:=by exact tb_mix) (hr:runQ P st (l.take m) e=q2:=by (simp only [go_sem,simprocAttr,List.take_succ_cons,List.take_zero,fx])<;>rfl):WP C n (.region id ⟨l⟩ true) Q e st:=WP.drw m ks hd hms hk hmix (RQ.run2 hr h)
end
theorem retCT {P:Program} {n:Nat} {e:Nat→D} {st:List Bx} {d d0 d1 d2:D} {t u i off:Nat} {T:TypeId} {row:List A} {k:Option Nat} (h:.t [d1,d2]=d) (ht:decide (t<n)=true:=by rfl) (hu:decide (u<n)=true:=by rfl) (he:e t=.a (.ptr i off):=by (simp only [go_sem,simprocAttr,fx])<;>rfl) (hs:st[i]? = some (.cell row):=by (simp only [go_sem,simprocAttr,fx])<;>rfl) (hk:ldk P T=some k:=by (simp only [go_sem])<;>rfl) (hd:qae k row off=some d0:=by (simp only [go_sem,simprocAttr,fx])<;>rfl) (hse:qc9 st d0=d1:=by (simp only [go_sem,simprocAttr,fx])<;>rfl) (hc1:clD1 d1=true:=by simp only [go_sem,fx]) (he2:qc9 st (e u)=d2:=by (simp only [go_sem,simprocAttr,fx])<;>rfl) (hc2:clD1 d2=true:=by simp only [go_sem,fx]):retN P n [.cell t T,.tmp u] d .ret e st:=by
 subst h
 show resL P n e st [.cell t T,.tmp u] _
 refine⟨[d1,d2],rfl,?_,by simp [hc1,hc2]⟩
 simp only [List.map_cons,List.map_nil,res1]
 rw [if_pos (of_decide_eq_true ht),if_pos (of_decide_eq_true hu),he,he2]
 simp only [hs,hk,hd,Option.map_some,hse]
/-! ### One step of a walk, by whichever rule fits -/
def KF (_:List Nat):Prop:=True
theorem WP.rgk {P:Program} {C:Cx P} {n:Nat} {Q:Exit→(Nat→D)→List Bx→Prop} {e:Nat→D} {st:List Bx} {ks:List Nat} {l:List Oper} {id:Nat} {q:(Nat→D)×List Bx×List Oper} (_:KF ks) (h:RSr C ⟨l⟩ q fun e' st'=>Q .normal (qa7 e' ks) st') (hs:qfl ⟨l⟩ n=true:=by kernel_rfl) (hk:ksOk ⟨l⟩ ks=true:=by kernel_rfl) (hr:runS P l e st=q:=by (simp only [go_sem,simprocAttr,fx])<;>rfl):WP C n (.region id ⟨l⟩ false) Q e st:=WP.reg ks hs hk (RS.run2 hr h)
def Rz (R:Prop):Prop:=R
theorem Rz.out {R:Prop} (r:Rz R):R:=r
theorem rnx {G R:Prop} (r:R) (t:Rz R→G:=by
 intro r
 first
 | (refine RS.rn ?_;simp only [qai];exact r.out)
 | (refine RQ.rn ?_;simp only [qbh];exact r.out)
 | exact r.out):G:=t r
theorem stp (ks:List Nat) {G R:Prop} (r:R) (t:KF ks→Rz R→G:=by
 intro kf r
 first
 | exact WP.seq r.out
 | (refine WP.rgk kf ?_;simp only [qai];exact r.out)
 | exact RS.fnT r.out
 | (refine RS.fn ?_;(try simp only [qab,qac]);exact r.out)
 | ((refine WP.cn (fun hc=>?_) (fun hc=>?_))<;>first|exact Bool.noConfusion hc|exact r.out)
 | (refine WP.skip ?_;(try simp only [qab,qac]);exact r.out)
 | (refine WP.exit ?_;(try simp only [qds,qcz,qcy,ne_eq,Nat.reduceEqDiff,not_false_eq_true,reduceCtorEq,qab,qac]);exact r.out)
 | exact WP.block r.out
 | (refine WP.ret ?_;(try simp only [qbc,qa0]);exact r.out)
 | exact ret3 r.out
 | exact retC3 r.out
 | exact retCT r.out
 | (refine RQ.nil ?_;refine RS.rn ?_;simp only [qai];exact r.out)
 | fail):G:=t trivial r
def Dd (_:D):Prop:=True
def Dz (_:Value):Prop:=True
section
variable {P:Program} {C:Cx P} {e:Nat→D} {st:List Bx} {ops:Array Oper} {r:List Oper} {K:(Nat→D)→List Bx→Prop} {KQ:(Nat→D)→Prop} {dst:Option Nat} {ty:TypeId} {pos:String} {after:Array Edge} {guard:Option (Nat×Bool)} {ds:List D} {d:D} {f:FuncId} {xs:List Operand} {tys:Array TypeId} {z:Value} {y:Operand} {caps:List A}
theorem RS.c1 (_:Dd d) (_:Dz (.bool true)) (hp:qaa P f ds d) (h:RS C ops r (putE e dst d) st K) (hx:xs.map (evO e)=ds:=by (simp only [go_sem,simprocAttr,fx])<;>rfl) (hc:ds.all clD=true:=by (first|(simp only [go_sem,List.all_cons,List.all_nil,Bool.and_true,fx];done)|fail)):RS C ops (⟨dst,.call ⟨.value (.func f),⟨xs⟩,tys⟩,ty,pos,after,guard⟩::r) e st K:=RS.call hx hc hp h
theorem RS.c2 (_:Dd d) (_:Dz (.bool true)) (hp:qaa P f ds d) (h:RS C ops r (putE e dst d) st K) (hy:evO e y=.a (.fn f caps):=by (simp only [go_sem,simprocAttr,fx])<;>rfl) (hx:xs.map (evO e)++caps.map D.a=ds:=by (simp only [go_sem,simprocAttr,fx])<;>rfl) (hc:ds.all clD=true:=by (first|(simp only [go_sem,List.all_cons,List.all_nil,Bool.and_true,fx];done)|fail)):RS C ops (⟨dst,.call ⟨.value y,⟨xs⟩,tys⟩,ty,pos,after,guard⟩::r) e st K:=RS.callv hy hx hc hp h
theorem RS.c3 (_:Dd (.a (.v z))) (_:Dz z) (hp:qaa P f ds (.a (.v z))) (h:RS C ops r (putE e dst (.a (.v z))) st K) (hx:(xs.map (evO e)).map (qf7 st)=ds:=by (simp only [go_sem,simprocAttr,fx])<;>rfl) (hc:(xs.map (evO e)).all (qf8 st)=true:=by (first|(simp only [go_sem,simprocAttr,List.all_cons,List.all_nil,Bool.and_true,fx];done)|fail)):RS C ops (⟨dst,.call ⟨.value (.func f),⟨xs⟩,tys⟩,ty,pos,after,guard⟩::r) e st K:=RS.callL hx hc hp h
theorem RS.c4 (_:Dd (.a (.v z))) (_:Dz z) (hp:qaa P f ds (.a (.v z))) (h:RS C ops r (putE e dst (.a (.v z))) st K) (hy:evO e y=.a (.fn f caps):=by (simp only [go_sem,simprocAttr,fx])<;>rfl) (hx:(xs.map (evO e)++caps.map D.a).map (qf7 st)=ds:=by (simp only [go_sem,simprocAttr,fx])<;>rfl) (hc:(xs.map (evO e)++caps.map D.a).all (qf8 st)=true:=by (first|(simp only [go_sem,simprocAttr,List.all_cons,List.all_nil,Bool.and_true,fx];done)|fail)):RS C ops (⟨dst,.call ⟨.value y,⟨xs⟩,tys⟩,ty,pos,after,guard⟩::r) e st K:=RS.callvL hy hx hc hp h
theorem RQ.c1 (_:Dd d) (_:Dz (.bool true)) (hp:qaa P f ds d) (h:RQ P ops st r (putE e dst d) KQ) (hx:xs.map (evO e)=ds:=by (simp only [go_sem,simprocAttr,fx])<;>rfl) (hc:ds.all clD=true:=by (first|(simp only [go_sem,List.all_cons,List.all_nil,Bool.and_true,fx];done)|fail)):RQ P ops st (⟨dst,.call ⟨.value (.func f),⟨xs⟩,tys⟩,ty,pos,after,guard⟩::r) e KQ:=RQ.call hx hc hp h
end
theorem stc {d:D} {z:Value} {G R1 R2:Prop} (t:Dd d→Dz z→Rz R1→Rz R2→G:=by
 intro dd dz r1 r2
 first
 | exact RS.c1 dd dz r1.out r2.out
 | exact RS.c2 dd dz r1.out r2.out
 | exact RS.c3 dd dz r1.out r2.out
 | exact RS.c4 dd dz r1.out r2.out
 | exact RQ.c1 dd dz r1.out r2.out
 | exact RQ.c3 dd dz r1.out r2.out
 | exact RQ.c4 dd dz r1.out r2.out
 | exact RWL.c1 dd dz r1.out r2.out
 | fail) (r1:R1) (r2:R2):G:=t trivial trivial r1 r2
end Go.Proofs.YthkojpnjdpbcgaaGreatDoor
