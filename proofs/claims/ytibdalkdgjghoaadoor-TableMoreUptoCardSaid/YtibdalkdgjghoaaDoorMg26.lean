/- The program's types, on plain data. Conditions: no text longer than 10^9 bytes. -/
import Derived.Test.YtibdalkdgjghoaaDoorMg23
import Derived.Test.YtibdalkdgjghoaaDoorMg25
import Derived.Test.YtibdalkdgjghoaaDoorMg6
set_option linter.unusedVariables false
set_option maxRecDepth 100000
set_option maxHeartbeats 8000000
set_option linter.unusedSimpArgs false
namespace Go.Proofs.YtibdalkdgjghoaaDoor
open Go.RowKit
theorem own_chunk (t:Ty) (l h:Nat) (hh:h≤4) (hl:l≤h):chunk (Ty.at t) 3 2 l h=((t.own.take h).drop l).map owAt:=by
 obtain⟨k,cls,n,⟨a0,b0⟩,⟨a1,b1⟩,⟨a2,b2⟩,⟨a3,b3⟩⟩:=t
 have:h=0∨h=1∨h=2∨h=3∨h=4:=by omega
 have:l=0∨l=1∨l=2∨l=3∨l=4:=by omega
 rcases ‹h=0∨_› with rfl|rfl|rfl|rfl|rfl<;>rcases ‹l=0∨_› with rfl|rfl|rfl|rfl|rfl<;>first|rfl|omega
theorem pkOwn (t:Ty) (N:Nat) (hN:N≤3) (h:max 0 (min t.n 3)=(N:Int)):DPure Tryd.prog 70 [.a (.ref (Ty.at t) 0)] (.a (.sl ((t.own.take (N+1)).map owAt))):=by
 have:N=0∨N=1∨N=2∨N=3:=by omega
 rcases this with rfl|rfl|rfl|rfl
 all_goals
  refine DPure.go Tryd.func70 rfl Tryd.ntmps70 rfl rfl rfl (fun C hro=>?_)
  have fx:=trivial
  replace fx:=And.intro h trivial
  repeat' (first|refine WP.seq ?_|(refine WP.rg [0,2,3] ?_;simp only [RSr_mk])|refine RS.fnT ?_|(refine RS.fn ?_;try simp only [thenQ_n,blockQ_n])|(refine RS.sA (hc:=by exact own_chunk t _ _ (by decide) (by decide)) (k:=?_);refine RS.rn ?_;simp only [RSr_mk])|(refine WP.ret ?_;(try simp only [thenQ_r,blockQ_r]);refine ret3 ?_))
  exact congrArg (fun l=>D.a (.sl (l.map owAt))) (List.drop_zero ..)
theorem ixl0 {q2:Option (Nat×Nat)} {a:Int×Int} {l:List (List A)}:ixD (some 2) q2 (.a (.sl (owAt a::l))) (.a (.v (.int .i64 0)))=some (.a (.ref (owAt a) 0)):=by refine ixD_at (j:=0) (row:=owAt a) ?_ ?_ ?_<;>rfl
theorem ixl1 {q2:Option (Nat×Nat)} {a b:Int×Int} {l:List (List A)}:ixD (some 2) q2 (.a (.sl (owAt a::owAt b::l))) (.a (.v (.int .i64 1)))=some (.a (.ref (owAt b) 0)):=by refine ixD_at (j:=1) (row:=owAt b) ?_ ?_ ?_<;>rfl
theorem ixl2 {q2:Option (Nat×Nat)} {a b c:Int×Int} {l:List (List A)}:ixD (some 2) q2 (.a (.sl (owAt a::owAt b::owAt c::l))) (.a (.v (.int .i64 2)))=some (.a (.ref (owAt c) 0)):=by refine ixD_at (j:=2) (row:=owAt c) ?_ ?_ ?_<;>rfl
theorem ixl3 {q2:Option (Nat×Nat)} {a b c d:Int×Int} {l:List (List A)}:ixD (some 2) q2 (.a (.sl (owAt a::owAt b::owAt c::owAt d::l))) (.a (.v (.int .i64 3)))=some (.a (.ref (owAt d) 0)):=by refine ixD_at (j:=3) (row:=owAt d) ?_ ?_ ?_<;>rfl
theorem owLen (a:Int×Int):(owAt a).length=2:=rfl
theorem owFrom {e:Nat→D} {a:Int×Int} {l:List (List A)} (h:(l.all fun r=>r.length==2)=true):slD Tryd.prog 32 e (some (.const (.int .i64 1))) none (.a (.sl (owAt a::l)))=some (.a (.sl l)):=by
 have h1:es Tryd.prog 32=some 2:=by simp only [go_sem];first|done|rfl
 have h2:allLen 2 (owAt a::l)=true:=by simp only [allLen,List.all_cons,owLen,h];rfl
 have h3:1≤l.length+1:=by omega
 have h4:1<9223372036854775807:=by omega
 simp only [slD,h1,h2,if_true,bndD,lowD,List.length_cons,Option.bind_some]
 simp [evO,go_sem]
 refine⟨1,?_,rfl⟩
 have h5:(0:Int)≤1∧(1:Int)≤(l.length:Int)+1:=by omega
 show (if (0:Int)≤1∧(1:Int)≤(l.length:Int)+1 then some (1:Int).toNat else none)=some 1
 rw [if_pos h5];rfl
theorem owFrom0 {e:Nat→D} {a:Int×Int}:slD Tryd.prog 32 e (some (.const (.int .i64 1))) none (.a (.sl [owAt a]))=some (.a (.sl [])):=owFrom rfl
theorem pkOwn0 (t:Ty) (h:t.n=0):DPure Tryd.prog 70 [.a (.ref (Ty.at t) 0)] (.a (.sl [owAt t.o0])):=pkOwn t 0 (by decide) (by rw [h];rfl)
theorem pkOwn1 (t:Ty) (h:t.n=1):DPure Tryd.prog 70 [.a (.ref (Ty.at t) 0)] (.a (.sl [owAt t.o0,owAt t.o1])):=pkOwn t 1 (by decide) (by rw [h];rfl)
theorem pkOwn2 (t:Ty) (h:t.n=2):DPure Tryd.prog 70 [.a (.ref (Ty.at t) 0)] (.a (.sl [owAt t.o0,owAt t.o1,owAt t.o2])):=pkOwn t 2 (by decide) (by rw [h];rfl)
theorem pkOwn3 (t:Ty) (h:t.n=3):DPure Tryd.prog 70 [.a (.ref (Ty.at t) 0)] (.a (.sl [owAt t.o0,owAt t.o1,owAt t.o2,owAt t.o3])):=pkOwn t 3 (by decide) (by rw [h];rfl)
theorem ochk1 (t:Ty):chunk (Ty.at t) 3 2 1 4=[owAt t.o1,owAt t.o2,owAt t.o3]:=own_chunk t 1 4 (by decide) (by decide)
theorem ochk2 (t:Ty):chunk (Ty.at t) 3 2 2 4=[owAt t.o2,owAt t.o3]:=own_chunk t 2 4 (by decide) (by decide)
theorem ochk3 (t:Ty):chunk (Ty.at t) 3 2 3 4=[owAt t.o3]:=own_chunk t 3 4 (by decide) (by decide)
theorem ochk4 (t:Ty):chunk (Ty.at t) 3 2 4 4=[]:=own_chunk t 4 4 (by decide) (by decide)
theorem ty_name (t:Ty) (p:Int) (h:t.kind=2) (hn:nameB t.cls=false):tyB t p=false:=by rw [ty2 t p h,hn];rfl
theorem ty_num (t:Ty) (p:Int) (h:t.kind=2) (hn:t.n<0∨3<t.n):tyB t p=false:=by
 rw [ty2 t p h]
 rcases hn with hn|hn
 ·rw [decide_eq_false (show ¬0≤t.n by omega)];simp
 ·rw [decide_eq_false (show ¬t.n≤3 by omega)];simp
theorem ty_kind (t:Ty) (p:Int) (h0:t.kind≠0) (h1:t.kind≠1) (h2:t.kind≠2):tyB t p=false:=by
 unfold tyB;rw [if_neg (by omega),if_neg h2]
theorem ty_ok (t:Ty) (p:Int) (h:t.kind=2) (hn:nameB t.cls=true) (h0:0≤t.n) (h3:t.n≤3):tyB t p=(okAt t.n p 0 t.o0&&(okAt t.n p 1 t.o1&&(okAt t.n p 2 t.o2&&okAt t.n p 3 t.o3))):=by
 rw [ty2 t p h,hn,decide_eq_true h0,decide_eq_true h3];rfl
theorem pkRight (t:Ty) (p:Int) (h:t.cls.length≤1000000000):DPure Tryd.prog 65 [.r (Ty.at t),.a (.v (.int .i64 p))] (.a (.v (.bool (tyB t p)))):=by
 obtain⟨o0,o1,o2,o3⟩:=ty_own_ld t
 have g0:=fun q2 a l=>@ixl0 q2 a l
 have g1:=fun q2 a b l=>@ixl1 q2 a b l
 have g2:=fun q2 a b c l=>@ixl2 q2 a b c l
 have g3:=fun q2 a b c d l=>@ixl3 q2 a b c d l
 have f0:=fun e a=>@owFrom0 e a
 have f1:∀(e:Nat→D) (a b:Int×Int),slD Tryd.prog 32 e (some (.const (.int .i64 1))) none (.a (.sl [owAt a,owAt b]))=some (.a (.sl [owAt b])):=fun _ _ _=>owFrom rfl
 have f2:∀(e:Nat→D) (a b c:Int×Int),slD Tryd.prog 32 e (some (.const (.int .i64 1))) none (.a (.sl [owAt a,owAt b,owAt c]))=some (.a (.sl [owAt b,owAt c])):=fun _ _ _ _=>owFrom rfl
 have f3:∀(e:Nat→D) (a b c d:Int×Int),slD Tryd.prog 32 e (some (.const (.int .i64 1))) none (.a (.sl [owAt a,owAt b,owAt c,owAt d]))=some (.a (.sl [owAt b,owAt c,owAt d])):=fun _ _ _ _ _=>owFrom rfl
 by_cases k0:t.kind=0
 ·have a0:(t.kind==0)=true:=beq_iff_eq.2 k0
  refine DPure.go Tryd.func65 rfl Tryd.ntmps65 rfl rfl rfl (fun C hro=>?_)
  have fx:=trivial
  refine WP.seq ?_
  refine WP.reg [0,1,2,4,5,7,9,11,13,14,22,37,39,40,41,42,48,51,52,53,54,59,64,65,66,67,72] (by kernel_rfl) (by kernel_rfl) ?_;refine RS.run2 (by simp only [go_sem,simprocAttr,thenQ_n];first|done|rfl) ?_;simp only [RSr_mk]
  first|refine RS.finT (by simp only [go_sem,simprocAttr];first|done|rfl) ?_|refine RS.fin (by simp only [go_sem,simprocAttr];first|done|rfl) ?_;(try simp only [thenQ_n,blockQ_n])
  refine WP.freeze 0 (Ty.at t) [(1,.a (.v (.int .i64 p))),(2,.a (.ref (Ty.at t) 0))] rfl (Ty.cl t) ?_ ?_
  ·simp only [Agree,go_sem,simprocAttr]
  replace fx:=And.intro a0 trivial
  repeat' (first|refine stp [0,1,2,4,5,7,9,11,13,14,22,37,39,40,41,42,48,51,52,53,54,59,64,65,66,67,72] ?_|refine WP.cn (fun hc=>?_) (fun hc=>?_)|fail)
  refine bool_eq ?_
  unfold tyB;rw [if_pos (.inl k0)]
 have a0:=beqF k0
 by_cases k1:t.kind=1
 ·have a1:(t.kind==1)=true:=beq_iff_eq.2 k1
  refine DPure.go Tryd.func65 rfl Tryd.ntmps65 rfl rfl rfl (fun C hro=>?_)
  have fx:=trivial
  refine WP.seq ?_
  refine WP.reg [0,1,2,4,5,7,9,11,13,14,22,37,39,40,41,42,48,51,52,53,54,59,64,65,66,67,72] (by kernel_rfl) (by kernel_rfl) ?_;refine RS.run2 (by simp only [go_sem,simprocAttr,thenQ_n];first|done|rfl) ?_;simp only [RSr_mk]
  first|refine RS.finT (by simp only [go_sem,simprocAttr];first|done|rfl) ?_|refine RS.fin (by simp only [go_sem,simprocAttr];first|done|rfl) ?_;(try simp only [thenQ_n,blockQ_n])
  refine WP.freeze 0 (Ty.at t) [(1,.a (.v (.int .i64 p))),(2,.a (.ref (Ty.at t) 0))] rfl (Ty.cl t) ?_ ?_
  ·simp only [Agree,go_sem,simprocAttr]
  replace fx:=And.intro a0 (And.intro a1 trivial)
  repeat' (first|refine stp [0,1,2,4,5,7,9,11,13,14,22,37,39,40,41,42,48,51,52,53,54,59,64,65,66,67,72] ?_|refine WP.cn (fun hc=>?_) (fun hc=>?_)|fail)
  refine bool_eq ?_
  unfold tyB;rw [if_pos (.inr k1)]
 have a1:=beqF k1
 by_cases k2:t.kind=2
 ·have a2:(t.kind==2)=true:=beq_iff_eq.2 k2
  cases hnm:nameB t.cls with
  | false =>
   refine DPure.go Tryd.func65 rfl Tryd.ntmps65 rfl rfl rfl (fun C hro=>?_)
   have fx:=trivial
   refine WP.seq ?_
   refine WP.reg [0,1,2,4,5,7,9,11,13,14,22,37,39,40,41,42,48,51,52,53,54,59,64,65,66,67,72] (by kernel_rfl) (by kernel_rfl) ?_;refine RS.run2 (by simp only [go_sem,simprocAttr,thenQ_n];first|done|rfl) ?_;simp only [RSr_mk]
   first|refine RS.finT (by simp only [go_sem,simprocAttr];first|done|rfl) ?_|refine RS.fin (by simp only [go_sem,simprocAttr];first|done|rfl) ?_;(try simp only [thenQ_n,blockQ_n])
   refine WP.freeze 0 (Ty.at t) [(1,.a (.v (.int .i64 p))),(2,.a (.ref (Ty.at t) 0))] rfl (Ty.cl t) ?_ ?_
   ·simp only [Agree,go_sem,simprocAttr]
   repeat' (first|refine WP.seq ?_|(refine WP.reg [0,1,2,4,5,7,9,11,13,14,22,37,39,40,41,42,48,51,52,53,54,59,64,65,66,67,72] (by kernel_rfl) (by kernel_rfl) ?_;refine RS.run2 (by simp only [go_sem,simprocAttr,a0,a1,a2,hnm,thenQ_n,Bool.not_false,Bool.true_or,Bool.false_or];first|done|rfl) ?_;simp only [RSr_mk])|(first|refine RS.finT (by simp only [go_sem,simprocAttr];first|done|rfl) ?_|refine RS.fin (by simp only [go_sem,simprocAttr];first|done|rfl) ?_;(try simp only [thenQ_n,blockQ_n]))|(refine RS.callL (by simp only [go_sem,simprocAttr,a0,a1,a2,hnm,thenQ_n,Bool.not_false,Bool.true_or,Bool.false_or];first|done|rfl) (by simp only [go_sem,simprocAttr,List.all_cons,List.all_nil,Bool.and_true,a0,a1,a2,hnm,thenQ_n,Bool.not_false,Bool.true_or,Bool.false_or]) (by exact pwName _ h) ?_;refine RS.run2 (by simp only [go_sem,simprocAttr,a0,a1,a2,hnm,thenQ_n,Bool.not_false,Bool.true_or,Bool.false_or];first|done|rfl) ?_;simp only [RSr_mk])|(refine RS.callvL (by simp only [go_sem,simprocAttr,a0,a1,a2,hnm,thenQ_n,Bool.not_false,Bool.true_or,Bool.false_or];first|done|rfl) (by simp only [go_sem,simprocAttr,a0,a1,a2,hnm,thenQ_n,Bool.not_false,Bool.true_or,Bool.false_or];first|done|rfl) (by simp only [go_sem,simprocAttr,List.all_cons,List.all_nil,Bool.and_true,a0,a1,a2,hnm,thenQ_n,Bool.not_false,Bool.true_or,Bool.false_or]) (by exact pwName _ h) ?_;refine RS.run2 (by simp only [go_sem,simprocAttr,a0,a1,a2,hnm,thenQ_n,Bool.not_false,Bool.true_or,Bool.false_or];first|done|rfl) ?_;simp only [RSr_mk])|((refine WP.cond rfl (by simp only [go_sem,simprocAttr,a0,a1,a2,hnm,thenQ_n,Bool.not_false,Bool.true_or,Bool.false_or];first|done|rfl) (fun hc=>?_) (fun hc=>?_))<;>try exact Bool.noConfusion hc)|(refine WP.skip ?_;(try simp only [thenQ_n,blockQ_n]))|(refine WP.exit ?_;(try simp only [thenQ_e,blockQ_e,blockQ_o,ne_eq,Nat.reduceEqDiff,not_false_eq_true,reduceCtorEq,thenQ_n,blockQ_n]))|refine WP.block ?_|(refine WP.ret ?_;(try simp only [thenQ_r,blockQ_r]);refine ret1 rfl (by simp only [go_sem,simprocAttr,a0,a1,a2,hnm,thenQ_n,Bool.not_false,Bool.true_or,Bool.false_or];first|done|rfl) (by simp only [go_sem,a0,a1,a2,hnm,thenQ_n,Bool.not_false,Bool.true_or,Bool.false_or]) ?_)|(fail;simp only [List.take_succ_cons,List.take_zero,List.drop_succ_cons,List.drop_zero,List.take_nil,List.drop_nil];refine RQ.run2 (by simp only [go_sem,simprocAttr,a0,a1,a2,hnm,thenQ_n,Bool.not_false,Bool.true_or,Bool.false_or];first|done|rfl) ?_;simp only [RQr_mk])|(refine RQ.nil ?_;refine RS.run2 (by simp only [go_sem,simprocAttr,a0,a1,a2,hnm,thenQ_n,Bool.not_false,Bool.true_or,Bool.false_or];first|done|rfl) ?_;simp only [RSr_mk])|(refine RQ.callL (by simp only [go_sem,simprocAttr,a0,a1,a2,hnm,thenQ_n,Bool.not_false,Bool.true_or,Bool.false_or];first|done|rfl) (by simp only [go_sem,simprocAttr,List.all_cons,List.all_nil,Bool.and_true,a0,a1,a2,hnm,thenQ_n,Bool.not_false,Bool.true_or,Bool.false_or]) (by exact pwName _ h) ?_;refine RQ.run2 (by simp only [go_sem,simprocAttr,a0,a1,a2,hnm,thenQ_n,Bool.not_false,Bool.true_or,Bool.false_or];first|done|rfl) ?_;simp only [RQr_mk])|(refine RQ.callvL (by simp only [go_sem,simprocAttr,a0,a1,a2,hnm,thenQ_n,Bool.not_false,Bool.true_or,Bool.false_or];first|done|rfl) (by simp only [go_sem,simprocAttr,a0,a1,a2,hnm,thenQ_n,Bool.not_false,Bool.true_or,Bool.false_or];first|done|rfl) (by simp only [go_sem,simprocAttr,List.all_cons,List.all_nil,Bool.and_true,a0,a1,a2,hnm,thenQ_n,Bool.not_false,Bool.true_or,Bool.false_or]) (by exact pwName _ h) ?_;refine RQ.run2 (by simp only [go_sem,simprocAttr,a0,a1,a2,hnm,thenQ_n,Bool.not_false,Bool.true_or,Bool.false_or];first|done|rfl) ?_;simp only [RQr_mk]))
   exact bool_eq (ty_name t p k2 hnm).symm
  | true =>
   by_cases hn0:t.n<0
   ·have b0:decide (t.n<0)=true:=decide_eq_true hn0
    refine DPure.go Tryd.func65 rfl Tryd.ntmps65 rfl rfl rfl (fun C hro=>?_)
    have fx:=trivial
    refine WP.seq ?_
    refine WP.reg [0,1,2,4,5,7,9,11,13,14,22,37,39,40,41,42,48,51,52,53,54,59,64,65,66,67,72] (by kernel_rfl) (by kernel_rfl) ?_;refine RS.run2 (by simp only [go_sem,simprocAttr,thenQ_n];first|done|rfl) ?_;simp only [RSr_mk]
    first|refine RS.finT (by simp only [go_sem,simprocAttr];first|done|rfl) ?_|refine RS.fin (by simp only [go_sem,simprocAttr];first|done|rfl) ?_;(try simp only [thenQ_n,blockQ_n])
    refine WP.freeze 0 (Ty.at t) [(1,.a (.v (.int .i64 p))),(2,.a (.ref (Ty.at t) 0))] rfl (Ty.cl t) ?_ ?_
    ·simp only [Agree,go_sem,simprocAttr]
    repeat' (first|refine WP.seq ?_|(refine WP.reg [0,1,2,4,5,7,9,11,13,14,22,37,39,40,41,42,48,51,52,53,54,59,64,65,66,67,72] (by kernel_rfl) (by kernel_rfl) ?_;refine RS.run2 (by simp only [go_sem,simprocAttr,a0,a1,a2,hnm,b0,thenQ_n,Bool.not_true,Bool.false_or,Bool.true_or];first|done|rfl) ?_;simp only [RSr_mk])|(first|refine RS.finT (by simp only [go_sem,simprocAttr];first|done|rfl) ?_|refine RS.fin (by simp only [go_sem,simprocAttr];first|done|rfl) ?_;(try simp only [thenQ_n,blockQ_n]))|(refine RS.callL (by simp only [go_sem,simprocAttr,a0,a1,a2,hnm,b0,thenQ_n,Bool.not_true,Bool.false_or,Bool.true_or];first|done|rfl) (by simp only [go_sem,simprocAttr,List.all_cons,List.all_nil,Bool.and_true,a0,a1,a2,hnm,b0,thenQ_n,Bool.not_true,Bool.false_or,Bool.true_or]) (by exact pwName _ h) ?_;refine RS.run2 (by simp only [go_sem,simprocAttr,a0,a1,a2,hnm,b0,thenQ_n,Bool.not_true,Bool.false_or,Bool.true_or];first|done|rfl) ?_;simp only [RSr_mk])|(refine RS.callvL (by simp only [go_sem,simprocAttr,a0,a1,a2,hnm,b0,thenQ_n,Bool.not_true,Bool.false_or,Bool.true_or];first|done|rfl) (by simp only [go_sem,simprocAttr,a0,a1,a2,hnm,b0,thenQ_n,Bool.not_true,Bool.false_or,Bool.true_or];first|done|rfl) (by simp only [go_sem,simprocAttr,List.all_cons,List.all_nil,Bool.and_true,a0,a1,a2,hnm,b0,thenQ_n,Bool.not_true,Bool.false_or,Bool.true_or]) (by exact pwName _ h) ?_;refine RS.run2 (by simp only [go_sem,simprocAttr,a0,a1,a2,hnm,b0,thenQ_n,Bool.not_true,Bool.false_or,Bool.true_or];first|done|rfl) ?_;simp only [RSr_mk])|((refine WP.cond rfl (by simp only [go_sem,simprocAttr,a0,a1,a2,hnm,b0,thenQ_n,Bool.not_true,Bool.false_or,Bool.true_or];first|done|rfl) (fun hc=>?_) (fun hc=>?_))<;>try exact Bool.noConfusion hc)|(refine WP.skip ?_;(try simp only [thenQ_n,blockQ_n]))|(refine WP.exit ?_;(try simp only [thenQ_e,blockQ_e,blockQ_o,ne_eq,Nat.reduceEqDiff,not_false_eq_true,reduceCtorEq,thenQ_n,blockQ_n]))|refine WP.block ?_|(refine WP.ret ?_;(try simp only [thenQ_r,blockQ_r]);refine ret1 rfl (by simp only [go_sem,simprocAttr,a0,a1,a2,hnm,b0,thenQ_n,Bool.not_true,Bool.false_or,Bool.true_or];first|done|rfl) (by simp only [go_sem,a0,a1,a2,hnm,b0,thenQ_n,Bool.not_true,Bool.false_or,Bool.true_or]) ?_)|(fail;simp only [List.take_succ_cons,List.take_zero,List.drop_succ_cons,List.drop_zero,List.take_nil,List.drop_nil];refine RQ.run2 (by simp only [go_sem,simprocAttr,a0,a1,a2,hnm,b0,thenQ_n,Bool.not_true,Bool.false_or,Bool.true_or];first|done|rfl) ?_;simp only [RQr_mk])|(refine RQ.nil ?_;refine RS.run2 (by simp only [go_sem,simprocAttr,a0,a1,a2,hnm,b0,thenQ_n,Bool.not_true,Bool.false_or,Bool.true_or];first|done|rfl) ?_;simp only [RSr_mk])|(refine RQ.callL (by simp only [go_sem,simprocAttr,a0,a1,a2,hnm,b0,thenQ_n,Bool.not_true,Bool.false_or,Bool.true_or];first|done|rfl) (by simp only [go_sem,simprocAttr,List.all_cons,List.all_nil,Bool.and_true,a0,a1,a2,hnm,b0,thenQ_n,Bool.not_true,Bool.false_or,Bool.true_or]) (by exact pwName _ h) ?_;refine RQ.run2 (by simp only [go_sem,simprocAttr,a0,a1,a2,hnm,b0,thenQ_n,Bool.not_true,Bool.false_or,Bool.true_or];first|done|rfl) ?_;simp only [RQr_mk])|(refine RQ.callvL (by simp only [go_sem,simprocAttr,a0,a1,a2,hnm,b0,thenQ_n,Bool.not_true,Bool.false_or,Bool.true_or];first|done|rfl) (by simp only [go_sem,simprocAttr,a0,a1,a2,hnm,b0,thenQ_n,Bool.not_true,Bool.false_or,Bool.true_or];first|done|rfl) (by simp only [go_sem,simprocAttr,List.all_cons,List.all_nil,Bool.and_true,a0,a1,a2,hnm,b0,thenQ_n,Bool.not_true,Bool.false_or,Bool.true_or]) (by exact pwName _ h) ?_;refine RQ.run2 (by simp only [go_sem,simprocAttr,a0,a1,a2,hnm,b0,thenQ_n,Bool.not_true,Bool.false_or,Bool.true_or];first|done|rfl) ?_;simp only [RQr_mk]))
    exact bool_eq (ty_num t p k2 (.inl hn0)).symm
   have b0:decide (t.n<0)=false:=decide_eq_false hn0
   by_cases hn3:3<t.n
   ·have b1:decide (t.n>3)=true:=decide_eq_true hn3
    refine DPure.go Tryd.func65 rfl Tryd.ntmps65 rfl rfl rfl (fun C hro=>?_)
    have fx:=trivial
    refine WP.seq ?_
    refine WP.reg [0,1,2,4,5,7,9,11,13,14,22,37,39,40,41,42,48,51,52,53,54,59,64,65,66,67,72] (by kernel_rfl) (by kernel_rfl) ?_;refine RS.run2 (by simp only [go_sem,simprocAttr,thenQ_n];first|done|rfl) ?_;simp only [RSr_mk]
    first|refine RS.finT (by simp only [go_sem,simprocAttr];first|done|rfl) ?_|refine RS.fin (by simp only [go_sem,simprocAttr];first|done|rfl) ?_;(try simp only [thenQ_n,blockQ_n])
    refine WP.freeze 0 (Ty.at t) [(1,.a (.v (.int .i64 p))),(2,.a (.ref (Ty.at t) 0))] rfl (Ty.cl t) ?_ ?_
    ·simp only [Agree,go_sem,simprocAttr]
    repeat' (first|refine WP.seq ?_|(refine WP.reg [0,1,2,4,5,7,9,11,13,14,22,37,39,40,41,42,48,51,52,53,54,59,64,65,66,67,72] (by kernel_rfl) (by kernel_rfl) ?_;refine RS.run2 (by simp only [go_sem,simprocAttr,a0,a1,a2,hnm,b0,b1,thenQ_n,Bool.not_true,Bool.false_or];first|done|rfl) ?_;simp only [RSr_mk])|(first|refine RS.finT (by simp only [go_sem,simprocAttr];first|done|rfl) ?_|refine RS.fin (by simp only [go_sem,simprocAttr];first|done|rfl) ?_;(try simp only [thenQ_n,blockQ_n]))|(refine RS.callL (by simp only [go_sem,simprocAttr,a0,a1,a2,hnm,b0,b1,thenQ_n,Bool.not_true,Bool.false_or];first|done|rfl) (by simp only [go_sem,simprocAttr,List.all_cons,List.all_nil,Bool.and_true,a0,a1,a2,hnm,b0,b1,thenQ_n,Bool.not_true,Bool.false_or]) (by exact pwName _ h) ?_;refine RS.run2 (by simp only [go_sem,simprocAttr,a0,a1,a2,hnm,b0,b1,thenQ_n,Bool.not_true,Bool.false_or];first|done|rfl) ?_;simp only [RSr_mk])|(refine RS.callvL (by simp only [go_sem,simprocAttr,a0,a1,a2,hnm,b0,b1,thenQ_n,Bool.not_true,Bool.false_or];first|done|rfl) (by simp only [go_sem,simprocAttr,a0,a1,a2,hnm,b0,b1,thenQ_n,Bool.not_true,Bool.false_or];first|done|rfl) (by simp only [go_sem,simprocAttr,List.all_cons,List.all_nil,Bool.and_true,a0,a1,a2,hnm,b0,b1,thenQ_n,Bool.not_true,Bool.false_or]) (by exact pwName _ h) ?_;refine RS.run2 (by simp only [go_sem,simprocAttr,a0,a1,a2,hnm,b0,b1,thenQ_n,Bool.not_true,Bool.false_or];first|done|rfl) ?_;simp only [RSr_mk])|((refine WP.cond rfl (by simp only [go_sem,simprocAttr,a0,a1,a2,hnm,b0,b1,thenQ_n,Bool.not_true,Bool.false_or];first|done|rfl) (fun hc=>?_) (fun hc=>?_))<;>try exact Bool.noConfusion hc)|(refine WP.skip ?_;(try simp only [thenQ_n,blockQ_n]))|(refine WP.exit ?_;(try simp only [thenQ_e,blockQ_e,blockQ_o,ne_eq,Nat.reduceEqDiff,not_false_eq_true,reduceCtorEq,thenQ_n,blockQ_n]))|refine WP.block ?_|(refine WP.ret ?_;(try simp only [thenQ_r,blockQ_r]);refine ret1 rfl (by simp only [go_sem,simprocAttr,a0,a1,a2,hnm,b0,b1,thenQ_n,Bool.not_true,Bool.false_or];first|done|rfl) (by simp only [go_sem,a0,a1,a2,hnm,b0,b1,thenQ_n,Bool.not_true,Bool.false_or]) ?_)|(fail;simp only [List.take_succ_cons,List.take_zero,List.drop_succ_cons,List.drop_zero,List.take_nil,List.drop_nil];refine RQ.run2 (by simp only [go_sem,simprocAttr,a0,a1,a2,hnm,b0,b1,thenQ_n,Bool.not_true,Bool.false_or];first|done|rfl) ?_;simp only [RQr_mk])|(refine RQ.nil ?_;refine RS.run2 (by simp only [go_sem,simprocAttr,a0,a1,a2,hnm,b0,b1,thenQ_n,Bool.not_true,Bool.false_or];first|done|rfl) ?_;simp only [RSr_mk])|(refine RQ.callL (by simp only [go_sem,simprocAttr,a0,a1,a2,hnm,b0,b1,thenQ_n,Bool.not_true,Bool.false_or];first|done|rfl) (by simp only [go_sem,simprocAttr,List.all_cons,List.all_nil,Bool.and_true,a0,a1,a2,hnm,b0,b1,thenQ_n,Bool.not_true,Bool.false_or]) (by exact pwName _ h) ?_;refine RQ.run2 (by simp only [go_sem,simprocAttr,a0,a1,a2,hnm,b0,b1,thenQ_n,Bool.not_true,Bool.false_or];first|done|rfl) ?_;simp only [RQr_mk])|(refine RQ.callvL (by simp only [go_sem,simprocAttr,a0,a1,a2,hnm,b0,b1,thenQ_n,Bool.not_true,Bool.false_or];first|done|rfl) (by simp only [go_sem,simprocAttr,a0,a1,a2,hnm,b0,b1,thenQ_n,Bool.not_true,Bool.false_or];first|done|rfl) (by simp only [go_sem,simprocAttr,List.all_cons,List.all_nil,Bool.and_true,a0,a1,a2,hnm,b0,b1,thenQ_n,Bool.not_true,Bool.false_or]) (by exact pwName _ h) ?_;refine RQ.run2 (by simp only [go_sem,simprocAttr,a0,a1,a2,hnm,b0,b1,thenQ_n,Bool.not_true,Bool.false_or];first|done|rfl) ?_;simp only [RQr_mk]))
    exact bool_eq (ty_num t p k2 (.inr hn3)).symm
   have b1:decide (t.n>3)=false:=decide_eq_false hn3
   have hok:=ty_ok t p k2 hnm (by omega) (by omega)
   have:t.n=0∨t.n=1∨t.n=2∨t.n=3:=by omega
   rcases this with hn|hn|hn|hn
   ·refine DPure.go Tryd.func65 rfl Tryd.ntmps65 rfl rfl rfl (fun C hro=>?_)
    have fx:=trivial
    refine WP.seq ?_
    refine WP.reg [0,1,2,4,5,7,9,11,13,14,22,37,39,40,41,42,48,51,52,53,54,59,64,65,66,67,72] (by kernel_rfl) (by kernel_rfl) ?_;refine RS.run2 (by simp only [go_sem,simprocAttr,thenQ_n];first|done|rfl) ?_;simp only [RSr_mk]
    first|refine RS.finT (by simp only [go_sem,simprocAttr];first|done|rfl) ?_|refine RS.fin (by simp only [go_sem,simprocAttr];first|done|rfl) ?_;(try simp only [thenQ_n,blockQ_n])
    refine WP.freeze 0 (Ty.at t) [(1,.a (.v (.int .i64 p))),(2,.a (.ref (Ty.at t) 0))] rfl (Ty.cl t) ?_ ?_
    ·simp only [Agree,go_sem,simprocAttr]
    replace fx:=And.intro a0 (And.intro a1 (And.intro a2 (And.intro hnm (And.intro b0 (And.intro b1 (And.intro g0 (And.intro g1 (And.intro g2 (And.intro g3 (And.intro f0 (And.intro f1 (And.intro f2 (And.intro f3 trivial)))))))))))))
    repeat' (first|refine WP.seq ?_|(refine WP.rg [0,1,2,4,5,7,9,11,13,14,22,37,39,40,41,42,48,51,52,53,54,59,64,65,66,67,72] ?_;simp only [RSr_mk])|refine RS.fnT ?_|(refine RS.fn ?_;try simp only [thenQ_n,blockQ_n])|(refine RS.cl (hp:=by first|exact pwName _ h|exact pkOwn0 t hn|exact poRight _ _) (h:=?_);refine RS.rn ?_;simp only [RSr_mk])|(refine RS.sA (hc:=by exact ochk1 t) (k:=?_);refine RS.rn ?_;simp only [RSr_mk])|((refine WP.cn (fun hc=>?_) (fun hc=>?_))<;>try exact Bool.noConfusion hc)|(refine WP.skip ?_;try simp only [thenQ_n,blockQ_n])|(refine WP.exit ?_;try simp only [thenQ_e,blockQ_e,blockQ_o,ne_eq,Nat.reduceEqDiff,not_false_eq_true,reduceCtorEq,thenQ_n,blockQ_n])|refine WP.block ?_|refine WP.loop_in ?_|refine WPIn.unroll ?_|(refine WP.ret ?_;(try simp only [thenQ_r,blockQ_r]);refine ret3 ?_))
    all_goals
     refine bool_eq ?_
     rw [hok,hn]
     clear hok
     simp_all [okAt]
   ·refine DPure.go Tryd.func65 rfl Tryd.ntmps65 rfl rfl rfl (fun C hro=>?_)
    have fx:=trivial
    refine WP.seq ?_
    refine WP.reg [0,1,2,4,5,7,9,11,13,14,22,37,39,40,41,42,48,51,52,53,54,59,64,65,66,67,72] (by kernel_rfl) (by kernel_rfl) ?_;refine RS.run2 (by simp only [go_sem,simprocAttr,thenQ_n];first|done|rfl) ?_;simp only [RSr_mk]
    first|refine RS.finT (by simp only [go_sem,simprocAttr];first|done|rfl) ?_|refine RS.fin (by simp only [go_sem,simprocAttr];first|done|rfl) ?_;(try simp only [thenQ_n,blockQ_n])
    refine WP.freeze 0 (Ty.at t) [(1,.a (.v (.int .i64 p))),(2,.a (.ref (Ty.at t) 0))] rfl (Ty.cl t) ?_ ?_
    ·simp only [Agree,go_sem,simprocAttr]
    replace fx:=And.intro a0 (And.intro a1 (And.intro a2 (And.intro hnm (And.intro b0 (And.intro b1 (And.intro g0 (And.intro g1 (And.intro g2 (And.intro g3 (And.intro f0 (And.intro f1 (And.intro f2 (And.intro f3 trivial)))))))))))))
    repeat' (first|refine WP.seq ?_|(refine WP.rg [0,1,2,4,5,7,9,11,13,14,22,37,39,40,41,42,48,51,52,53,54,59,64,65,66,67,72] ?_;simp only [RSr_mk])|refine RS.fnT ?_|(refine RS.fn ?_;try simp only [thenQ_n,blockQ_n])|(refine RS.cl (hp:=by first|exact pwName _ h|exact pkOwn1 t hn|exact poRight _ _) (h:=?_);refine RS.rn ?_;simp only [RSr_mk])|(refine RS.sA (hc:=by exact ochk2 t) (k:=?_);refine RS.rn ?_;simp only [RSr_mk])|((refine WP.cn (fun hc=>?_) (fun hc=>?_))<;>try exact Bool.noConfusion hc)|(refine WP.skip ?_;try simp only [thenQ_n,blockQ_n])|(refine WP.exit ?_;try simp only [thenQ_e,blockQ_e,blockQ_o,ne_eq,Nat.reduceEqDiff,not_false_eq_true,reduceCtorEq,thenQ_n,blockQ_n])|refine WP.block ?_|refine WP.loop_in ?_|refine WPIn.unroll ?_|(refine WP.ret ?_;(try simp only [thenQ_r,blockQ_r]);refine ret3 ?_))
    all_goals
     refine bool_eq ?_
     rw [hok,hn]
     clear hok
     simp_all [okAt]
   ·refine DPure.go Tryd.func65 rfl Tryd.ntmps65 rfl rfl rfl (fun C hro=>?_)
    have fx:=trivial
    refine WP.seq ?_
    refine WP.reg [0,1,2,4,5,7,9,11,13,14,22,37,39,40,41,42,48,51,52,53,54,59,64,65,66,67,72] (by kernel_rfl) (by kernel_rfl) ?_;refine RS.run2 (by simp only [go_sem,simprocAttr,thenQ_n];first|done|rfl) ?_;simp only [RSr_mk]
    first|refine RS.finT (by simp only [go_sem,simprocAttr];first|done|rfl) ?_|refine RS.fin (by simp only [go_sem,simprocAttr];first|done|rfl) ?_;(try simp only [thenQ_n,blockQ_n])
    refine WP.freeze 0 (Ty.at t) [(1,.a (.v (.int .i64 p))),(2,.a (.ref (Ty.at t) 0))] rfl (Ty.cl t) ?_ ?_
    ·simp only [Agree,go_sem,simprocAttr]
    replace fx:=And.intro a0 (And.intro a1 (And.intro a2 (And.intro hnm (And.intro b0 (And.intro b1 (And.intro g0 (And.intro g1 (And.intro g2 (And.intro g3 (And.intro f0 (And.intro f1 (And.intro f2 (And.intro f3 trivial)))))))))))))
    repeat' (first|refine WP.seq ?_|(refine WP.rg [0,1,2,4,5,7,9,11,13,14,22,37,39,40,41,42,48,51,52,53,54,59,64,65,66,67,72] ?_;simp only [RSr_mk])|refine RS.fnT ?_|(refine RS.fn ?_;try simp only [thenQ_n,blockQ_n])|(refine RS.cl (hp:=by first|exact pwName _ h|exact pkOwn2 t hn|exact poRight _ _) (h:=?_);refine RS.rn ?_;simp only [RSr_mk])|(refine RS.sA (hc:=by exact ochk3 t) (k:=?_);refine RS.rn ?_;simp only [RSr_mk])|((refine WP.cn (fun hc=>?_) (fun hc=>?_))<;>try exact Bool.noConfusion hc)|(refine WP.skip ?_;try simp only [thenQ_n,blockQ_n])|(refine WP.exit ?_;try simp only [thenQ_e,blockQ_e,blockQ_o,ne_eq,Nat.reduceEqDiff,not_false_eq_true,reduceCtorEq,thenQ_n,blockQ_n])|refine WP.block ?_|refine WP.loop_in ?_|refine WPIn.unroll ?_|(refine WP.ret ?_;(try simp only [thenQ_r,blockQ_r]);refine ret3 ?_))
    all_goals
     refine bool_eq ?_
     rw [hok,hn]
     clear hok
     simp_all [okAt]
   ·refine DPure.go Tryd.func65 rfl Tryd.ntmps65 rfl rfl rfl (fun C hro=>?_)
    have fx:=trivial
    refine WP.seq ?_
    refine WP.reg [0,1,2,4,5,7,9,11,13,14,22,37,39,40,41,42,48,51,52,53,54,59,64,65,66,67,72] (by kernel_rfl) (by kernel_rfl) ?_;refine RS.run2 (by simp only [go_sem,simprocAttr,thenQ_n];first|done|rfl) ?_;simp only [RSr_mk]
    first|refine RS.finT (by simp only [go_sem,simprocAttr];first|done|rfl) ?_|refine RS.fin (by simp only [go_sem,simprocAttr];first|done|rfl) ?_;(try simp only [thenQ_n,blockQ_n])
    refine WP.freeze 0 (Ty.at t) [(1,.a (.v (.int .i64 p))),(2,.a (.ref (Ty.at t) 0))] rfl (Ty.cl t) ?_ ?_
    ·simp only [Agree,go_sem,simprocAttr]
    replace fx:=And.intro a0 (And.intro a1 (And.intro a2 (And.intro hnm (And.intro b0 (And.intro b1 (And.intro g0 (And.intro g1 (And.intro g2 (And.intro g3 (And.intro f0 (And.intro f1 (And.intro f2 (And.intro f3 trivial)))))))))))))
    repeat' (first|refine WP.seq ?_|(refine WP.rg [0,1,2,4,5,7,9,11,13,14,22,37,39,40,41,42,48,51,52,53,54,59,64,65,66,67,72] ?_;simp only [RSr_mk])|refine RS.fnT ?_|(refine RS.fn ?_;try simp only [thenQ_n,blockQ_n])|(refine RS.cl (hp:=by first|exact pwName _ h|exact pkOwn3 t hn|exact poRight _ _) (h:=?_);refine RS.rn ?_;simp only [RSr_mk])|(refine RS.sA (hc:=by exact ochk4 t) (k:=?_);refine RS.rn ?_;simp only [RSr_mk])|((refine WP.cn (fun hc=>?_) (fun hc=>?_))<;>try exact Bool.noConfusion hc)|(refine WP.skip ?_;try simp only [thenQ_n,blockQ_n])|(refine WP.exit ?_;try simp only [thenQ_e,blockQ_e,blockQ_o,ne_eq,Nat.reduceEqDiff,not_false_eq_true,reduceCtorEq,thenQ_n,blockQ_n])|refine WP.block ?_|refine WP.loop_in ?_|refine WPIn.unroll ?_|(refine WP.ret ?_;(try simp only [thenQ_r,blockQ_r]);refine ret3 ?_))
    all_goals
     refine bool_eq ?_
     rw [hok,hn]
     clear hok
     simp_all [okAt]
 ·have a2:=beqF k2
  refine DPure.go Tryd.func65 rfl Tryd.ntmps65 rfl rfl rfl (fun C hro=>?_)
  have fx:=trivial
  refine WP.seq ?_
  refine WP.reg [0,1,2,4,5,7,9,11,13,14,22,37,39,40,41,42,48,51,52,53,54,59,64,65,66,67,72] (by kernel_rfl) (by kernel_rfl) ?_;refine RS.run2 (by simp only [go_sem,simprocAttr,thenQ_n];first|done|rfl) ?_;simp only [RSr_mk]
  first|refine RS.finT (by simp only [go_sem,simprocAttr];first|done|rfl) ?_|refine RS.fin (by simp only [go_sem,simprocAttr];first|done|rfl) ?_;(try simp only [thenQ_n,blockQ_n])
  refine WP.freeze 0 (Ty.at t) [(1,.a (.v (.int .i64 p))),(2,.a (.ref (Ty.at t) 0))] rfl (Ty.cl t) ?_ ?_
  ·simp only [Agree,go_sem,simprocAttr]
  replace fx:=And.intro a0 (And.intro a1 (And.intro a2 trivial))
  repeat' (first|refine stp [0,1,2,4,5,7,9,11,13,14,22,37,39,40,41,42,48,51,52,53,54,59,64,65,66,67,72] ?_|refine WP.cn (fun hc=>?_) (fun hc=>?_)|fail)
  exact bool_eq (ty_kind t p k0 k1 k2).symm
end Go.Proofs.YtibdalkdgjghoaaDoor
