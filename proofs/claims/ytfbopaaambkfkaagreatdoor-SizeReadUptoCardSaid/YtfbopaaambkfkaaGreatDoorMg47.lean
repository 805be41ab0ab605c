/- The program's types, on plain data. Conditions: no text longer than 10^9 bytes. -/
import Derived.Test.YtfbopaaambkfkaaGreatDoorMg46
import Derived.Test.YtfbopaaambkfkaaGreatDoorMg40
import Derived.Test.YtfbopaaambkfkaaGreatDoorMg6
set_option linter.unusedVariables false
set_option maxRecDepth 100000
set_option maxHeartbeats 8000000
set_option linter.unusedSimpArgs false
namespace Go.Proofs.YtfbopaaambkfkaaGreatDoor
open Go.RowKit
theorem qd7 (t:Ty) (l h:Nat) (hh:h≤4) (hl:l≤h):qem (Ty.at t) 3 2 l h=((t.own.take h).drop l).map owAt:=by
 obtain⟨k,cls,n,⟨a0,b0⟩,⟨a1,b1⟩,⟨a2,b2⟩,⟨a3,b3⟩⟩:=t
 have:h=0∨h=1∨h=2∨h=3∨h=4:=by omega
 have:l=0∨l=1∨l=2∨l=3∨l=4:=by omega
 rcases ‹h=0∨_› with rfl|rfl|rfl|rfl|rfl<;>rcases ‹l=0∨_› with rfl|rfl|rfl|rfl|rfl<;>first|rfl|omega
theorem pkOwn (t:Ty) (N:Nat) (hN:N≤3) (h:max 0 (min t.n 3)=(N:Int)):qaa Tryz.prog 117 [.a (.ref (Ty.at t) 0)] (.a (.sl ((t.own.take (N+1)).map owAt))):=by
 have:N=0∨N=1∨N=2∨N=3:=by omega
 rcases this with rfl|rfl|rfl|rfl
 all_goals
  refine qaa.go Tryz.func117 rfl Tryz.ntmps117 rfl rfl rfl (fun C hro=>?_)
  have fx:=trivial
  replace fx:=ai12 h trivial
  repeat' (first|refine WP.seq ?_|(refine WP.rg [0,2,3] ?_;simp only [qao])|refine RS.fnT ?_|(refine RS.fn ?_;try simp only [qab,qae])|(refine RS.sA (hc:=by exact qd7 t _ _ (by decide) (by decide)) (k:=?_);refine RS.rn ?_;simp only [qao])|(refine WP.ret ?_;(try simp only [qa1,qaz]);refine ret3 ?_))
  exact congrArg (fun l=>D.a (.sl (l.map owAt))) (List.drop_zero ..)
theorem ixl0 {q2:Option (Nat×Nat)} {a:Int×Int} {l:List (List A)}:ixD (some 2) q2 (.a (.sl (owAt a::l))) (.a (.v (.int .i64 0)))=some (.a (.ref (owAt a) 0)):=by refine qar (j:=0) (row:=owAt a) ?_ ?_ ?_<;>rfl
theorem ixl1 {q2:Option (Nat×Nat)} {a b:Int×Int} {l:List (List A)}:ixD (some 2) q2 (.a (.sl (owAt a::owAt b::l))) (.a (.v (.int .i64 1)))=some (.a (.ref (owAt b) 0)):=by refine qar (j:=1) (row:=owAt b) ?_ ?_ ?_<;>rfl
theorem ixl2 {q2:Option (Nat×Nat)} {a b c:Int×Int} {l:List (List A)}:ixD (some 2) q2 (.a (.sl (owAt a::owAt b::owAt c::l))) (.a (.v (.int .i64 2)))=some (.a (.ref (owAt c) 0)):=by refine qar (j:=2) (row:=owAt c) ?_ ?_ ?_<;>rfl
theorem ixl3 {q2:Option (Nat×Nat)} {a b c d:Int×Int} {l:List (List A)}:ixD (some 2) q2 (.a (.sl (owAt a::owAt b::owAt c::owAt d::l))) (.a (.v (.int .i64 3)))=some (.a (.ref (owAt d) 0)):=by refine qar (j:=3) (row:=owAt d) ?_ ?_ ?_<;>rfl
theorem owLen (a:Int×Int):(owAt a).length=2:=rfl
theorem qly {e:Nat→D} {a:Int×Int} {l:List (List A)} (h:(l.all fun r=>r.length==2)=true):slD Tryz.prog 46 e (some (.const (.int .i64 1))) none (.a (.sl (owAt a::l)))=some (.a (.sl l)):=by
 have h1:es Tryz.prog 46=some 2:=by simp only [go_sem];first|done|rfl
 have h2:qc1 2 (owAt a::l)=true:=by simp only [qc1,List.all_cons,owLen,h];rfl
 have h3:1≤l.length+1:=by omega
 have h4:1<9223372036854775807:=by omega
 simp only [slD,h1,h2,if_true,bndD,lowD,List.length_cons,Option.bind_some]
 simp [evO,go_sem]
 refine⟨1,?_,rfl⟩
 have h5:(0:Int)≤1∧(1:Int)≤(l.length:Int)+1:=by omega
 show (if (0:Int)≤1∧(1:Int)≤(l.length:Int)+1 then some (1:Int).toNat else none)=some 1
 rw [if_pos h5];rfl
theorem owFrom0 {e:Nat→D} {a:Int×Int}:slD Tryz.prog 46 e (some (.const (.int .i64 1))) none (.a (.sl [owAt a]))=some (.a (.sl [])):=qly rfl
theorem pkOwn0 (t:Ty) (h:t.n=0):qaa Tryz.prog 117 [.a (.ref (Ty.at t) 0)] (.a (.sl [owAt t.o0])):=pkOwn t 0 (by decide) (by rw [h];rfl)
theorem pkOwn1 (t:Ty) (h:t.n=1):qaa Tryz.prog 117 [.a (.ref (Ty.at t) 0)] (.a (.sl [owAt t.o0,owAt t.o1])):=pkOwn t 1 (by decide) (by rw [h];rfl)
theorem pkOwn2 (t:Ty) (h:t.n=2):qaa Tryz.prog 117 [.a (.ref (Ty.at t) 0)] (.a (.sl [owAt t.o0,owAt t.o1,owAt t.o2])):=pkOwn t 2 (by decide) (by rw [h];rfl)
theorem pkOwn3 (t:Ty) (h:t.n=3):qaa Tryz.prog 117 [.a (.ref (Ty.at t) 0)] (.a (.sl [owAt t.o0,owAt t.o1,owAt t.o2,owAt t.o3])):=pkOwn t 3 (by decide) (by rw [h];rfl)
theorem ochk1 (t:Ty):qem (Ty.at t) 3 2 1 4=[owAt t.o1,owAt t.o2,owAt t.o3]:=qd7 t 1 4 (by decide) (by decide)
theorem ochk2 (t:Ty):qem (Ty.at t) 3 2 2 4=[owAt t.o2,owAt t.o3]:=qd7 t 2 4 (by decide) (by decide)
theorem ochk3 (t:Ty):qem (Ty.at t) 3 2 3 4=[owAt t.o3]:=qd7 t 3 4 (by decide) (by decide)
theorem ochk4 (t:Ty):qem (Ty.at t) 3 2 4 4=[]:=qd7 t 4 4 (by decide) (by decide)
theorem ty_name (t:Ty) (p:Int) (h:t.kind=2) (hn:qan t.cls=false):tyB t p=false:=by rw [ty2 t p h,hn];rfl
theorem ty_num (t:Ty) (p:Int) (h:t.kind=2) (hn:t.n<0∨3<t.n):tyB t p=false:=by
 rw [ty2 t p h]
 rcases hn with hn|hn
 ·rw [decide_eq_false (show ¬0≤t.n by omega)];simp
 ·rw [decide_eq_false (show ¬t.n≤3 by omega)];simp
theorem qay (t:Ty) (p:Int) (h0:t.kind≠0) (h1:t.kind≠1) (h2:t.kind≠2):tyB t p=false:=by
 unfold tyB;rw [if_neg (by omega),if_neg h2]
theorem ty_ok (t:Ty) (p:Int) (h:t.kind=2) (hn:qan t.cls=true) (h0:0≤t.n) (h3:t.n≤3):tyB t p=(okAt t.n p 0 t.o0&&(okAt t.n p 1 t.o1&&(okAt t.n p 2 t.o2&&okAt t.n p 3 t.o3))):=by
 rw [ty2 t p h,hn,decide_eq_true h0,decide_eq_true h3];rfl
theorem qki (t:Ty) (p:Int) (h:t.cls.length≤1000000000):qaa Tryz.prog 96 [.r (Ty.at t),.a (.v (.int .i64 p))] (.a (.v (.bool (tyB t p)))):=by
 obtain⟨o0,o1,o2,o3⟩:=qgj t
 have g0:=fun q2 a l=>@ixl0 q2 a l
 have g1:=fun q2 a b l=>@ixl1 q2 a b l
 have g2:=fun q2 a b c l=>@ixl2 q2 a b c l
 have g3:=fun q2 a b c d l=>@ixl3 q2 a b c d l
 have f0:=fun e a=>@owFrom0 e a
 have f1:∀(e:Nat→D) (a b:Int×Int),slD Tryz.prog 46 e (some (.const (.int .i64 1))) none (.a (.sl [owAt a,owAt b]))=some (.a (.sl [owAt b])):=fun _ _ _=>qly rfl
 have f2:∀(e:Nat→D) (a b c:Int×Int),slD Tryz.prog 46 e (some (.const (.int .i64 1))) none (.a (.sl [owAt a,owAt b,owAt c]))=some (.a (.sl [owAt b,owAt c])):=fun _ _ _ _=>qly rfl
 have f3:∀(e:Nat→D) (a b c d:Int×Int),slD Tryz.prog 46 e (some (.const (.int .i64 1))) none (.a (.sl [owAt a,owAt b,owAt c,owAt d]))=some (.a (.sl [owAt b,owAt c,owAt d])):=fun _ _ _ _ _=>qly rfl
 by_cases k0:t.kind=0
 ·have a0:(t.kind==0)=true:=beq_iff_eq.2 k0
  refine qaa.go Tryz.func96 rfl Tryz.ntmps96 rfl rfl rfl (fun C hro=>?_)
  have fx:=trivial
  refine WP.seq ?_
  refine WP.reg [0,1,2,4,5,7,9,11,13,14,22,37,39,40,41,42,48,51,52,53,54,59,64,65,66,67,72] (by kernel_rfl) (by kernel_rfl) ?_;refine RS.run2 (by simp only [go_sem,simprocAttr,qab];first|done|rfl) ?_;simp only [qao]
  first|refine RS.finT (by simp only [go_sem,simprocAttr];first|done|rfl) ?_|refine RS.fin (by simp only [go_sem,simprocAttr];first|done|rfl) ?_;(try simp only [qab,qae])
  refine WP.freeze 0 (Ty.at t) [(1,.a (.v (.int .i64 p))),(2,.a (.ref (Ty.at t) 0))] rfl (Ty.cl t) ?_ ?_
  ·simp only [qal,go_sem,simprocAttr]
  replace fx:=ai12 a0 trivial
  repeat' (first|refine stp [0,1,2,4,5,7,9,11,13,14,22,37,39,40,41,42,48,51,52,53,54,59,64,65,66,67,72] ?_|refine WP.cn (fun hc=>?_) (fun hc=>?_)|fail)
  refine qaf ?_
  unfold tyB;rw [if_pos (.inl k0)]
 have a0:=beqF k0
 by_cases k1:t.kind=1
 ·have a1:(t.kind==1)=true:=beq_iff_eq.2 k1
  refine qaa.go Tryz.func96 rfl Tryz.ntmps96 rfl rfl rfl (fun C hro=>?_)
  have fx:=trivial
  refine WP.seq ?_
  refine WP.reg [0,1,2,4,5,7,9,11,13,14,22,37,39,40,41,42,48,51,52,53,54,59,64,65,66,67,72] (by kernel_rfl) (by kernel_rfl) ?_;refine RS.run2 (by simp only [go_sem,simprocAttr,qab];first|done|rfl) ?_;simp only [qao]
  first|refine RS.finT (by simp only [go_sem,simprocAttr];first|done|rfl) ?_|refine RS.fin (by simp only [go_sem,simprocAttr];first|done|rfl) ?_;(try simp only [qab,qae])
  refine WP.freeze 0 (Ty.at t) [(1,.a (.v (.int .i64 p))),(2,.a (.ref (Ty.at t) 0))] rfl (Ty.cl t) ?_ ?_
  ·simp only [qal,go_sem,simprocAttr]
  replace fx:=ai12 a0 (ai12 a1 trivial)
  repeat' (first|refine stp [0,1,2,4,5,7,9,11,13,14,22,37,39,40,41,42,48,51,52,53,54,59,64,65,66,67,72] ?_|refine WP.cn (fun hc=>?_) (fun hc=>?_)|fail)
  refine qaf ?_
  unfold tyB;rw [if_pos (.inr k1)]
 have a1:=beqF k1
 by_cases k2:t.kind=2
 ·have a2:(t.kind==2)=true:=beq_iff_eq.2 k2
  cases hnm:qan t.cls with
  | false =>
   refine qaa.go Tryz.func96 rfl Tryz.ntmps96 rfl rfl rfl (fun C hro=>?_)
   have fx:=trivial
   refine WP.seq ?_
   refine WP.reg [0,1,2,4,5,7,9,11,13,14,22,37,39,40,41,42,48,51,52,53,54,59,64,65,66,67,72] (by kernel_rfl) (by kernel_rfl) ?_;refine RS.run2 (by simp only [go_sem,simprocAttr,qab];first|done|rfl) ?_;simp only [qao]
   first|refine RS.finT (by simp only [go_sem,simprocAttr];first|done|rfl) ?_|refine RS.fin (by simp only [go_sem,simprocAttr];first|done|rfl) ?_;(try simp only [qab,qae])
   refine WP.freeze 0 (Ty.at t) [(1,.a (.v (.int .i64 p))),(2,.a (.ref (Ty.at t) 0))] rfl (Ty.cl t) ?_ ?_
   ·simp only [qal,go_sem,simprocAttr]
   replace fx:=ai12 a0 (ai12 a1 (ai12 a2 (ai12 hnm (ai12 @Bool.not_false (ai12 @Bool.true_or (ai12 @Bool.false_or trivial))))))
   repeat' (first|refine stp [0,1,2,4,5,7,9,11,13,14,22,37,39,40,41,42,48,51,52,53,54,59,64,65,66,67,72] ?_|(refine stc (r1:=by exact qcq _ h) (r2:=?_);refine rnx ?_)|refine WP.cn (fun hc=>?_) (fun hc=>?_)|fail)
   exact qaf (ty_name t p k2 hnm).symm
  | true =>
   by_cases hn0:t.n<0
   ·have b0:decide (t.n<0)=true:=decide_eq_true hn0
    refine qaa.go Tryz.func96 rfl Tryz.ntmps96 rfl rfl rfl (fun C hro=>?_)
    have fx:=trivial
    refine WP.seq ?_
    refine WP.reg [0,1,2,4,5,7,9,11,13,14,22,37,39,40,41,42,48,51,52,53,54,59,64,65,66,67,72] (by kernel_rfl) (by kernel_rfl) ?_;refine RS.run2 (by simp only [go_sem,simprocAttr,qab];first|done|rfl) ?_;simp only [qao]
    first|refine RS.finT (by simp only [go_sem,simprocAttr];first|done|rfl) ?_|refine RS.fin (by simp only [go_sem,simprocAttr];first|done|rfl) ?_;(try simp only [qab,qae])
    refine WP.freeze 0 (Ty.at t) [(1,.a (.v (.int .i64 p))),(2,.a (.ref (Ty.at t) 0))] rfl (Ty.cl t) ?_ ?_
    ·simp only [qal,go_sem,simprocAttr]
    replace fx:=ai12 a0 (ai12 a1 (ai12 a2 (ai12 hnm (ai12 b0 (ai12 @Bool.not_true (ai12 @Bool.false_or (ai12 @Bool.true_or trivial)))))))
    repeat' (first|refine stp [0,1,2,4,5,7,9,11,13,14,22,37,39,40,41,42,48,51,52,53,54,59,64,65,66,67,72] ?_|(refine stc (r1:=by exact qcq _ h) (r2:=?_);refine rnx ?_)|refine WP.cn (fun hc=>?_) (fun hc=>?_)|fail)
    exact qaf (ty_num t p k2 (.inl hn0)).symm
   have b0:decide (t.n<0)=false:=decide_eq_false hn0
   by_cases hn3:3<t.n
   ·have b1:decide (t.n>3)=true:=decide_eq_true hn3
    refine qaa.go Tryz.func96 rfl Tryz.ntmps96 rfl rfl rfl (fun C hro=>?_)
    have fx:=trivial
    refine WP.seq ?_
    refine WP.reg [0,1,2,4,5,7,9,11,13,14,22,37,39,40,41,42,48,51,52,53,54,59,64,65,66,67,72] (by kernel_rfl) (by kernel_rfl) ?_;refine RS.run2 (by simp only [go_sem,simprocAttr,qab];first|done|rfl) ?_;simp only [qao]
    first|refine RS.finT (by simp only [go_sem,simprocAttr];first|done|rfl) ?_|refine RS.fin (by simp only [go_sem,simprocAttr];first|done|rfl) ?_;(try simp only [qab,qae])
    refine WP.freeze 0 (Ty.at t) [(1,.a (.v (.int .i64 p))),(2,.a (.ref (Ty.at t) 0))] rfl (Ty.cl t) ?_ ?_
    ·simp only [qal,go_sem,simprocAttr]
    replace fx:=ai12 a0 (ai12 a1 (ai12 a2 (ai12 hnm (ai12 b0 (ai12 b1 (ai12 @Bool.not_true (ai12 @Bool.false_or trivial)))))))
    repeat' (first|refine stp [0,1,2,4,5,7,9,11,13,14,22,37,39,40,41,42,48,51,52,53,54,59,64,65,66,67,72] ?_|(refine stc (r1:=by exact qcq _ h) (r2:=?_);refine rnx ?_)|refine WP.cn (fun hc=>?_) (fun hc=>?_)|fail)
    exact qaf (ty_num t p k2 (.inr hn3)).symm
   have b1:decide (t.n>3)=false:=decide_eq_false hn3
   have hok:=ty_ok t p k2 hnm (by omega) (by omega)
   have:t.n=0∨t.n=1∨t.n=2∨t.n=3:=by omega
   rcases this with hn|hn|hn|hn
   ·refine qaa.go Tryz.func96 rfl Tryz.ntmps96 rfl rfl rfl (fun C hro=>?_)
    have fx:=trivial
    refine WP.seq ?_
    refine WP.reg [0,1,2,4,5,7,9,11,13,14,22,37,39,40,41,42,48,51,52,53,54,59,64,65,66,67,72] (by kernel_rfl) (by kernel_rfl) ?_;refine RS.run2 (by simp only [go_sem,simprocAttr,qab];first|done|rfl) ?_;simp only [qao]
    first|refine RS.finT (by simp only [go_sem,simprocAttr];first|done|rfl) ?_|refine RS.fin (by simp only [go_sem,simprocAttr];first|done|rfl) ?_;(try simp only [qab,qae])
    refine WP.freeze 0 (Ty.at t) [(1,.a (.v (.int .i64 p))),(2,.a (.ref (Ty.at t) 0))] rfl (Ty.cl t) ?_ ?_
    ·simp only [qal,go_sem,simprocAttr]
    replace fx:=ai12 a0 (ai12 a1 (ai12 a2 (ai12 hnm (ai12 b0 (ai12 b1 (ai12 g0 (ai12 g1 (ai12 g2 (ai12 g3 (ai12 f0 (ai12 f1 (ai12 f2 (ai12 f3 trivial)))))))))))))
    repeat' (first|refine WP.seq ?_|(refine WP.rg [0,1,2,4,5,7,9,11,13,14,22,37,39,40,41,42,48,51,52,53,54,59,64,65,66,67,72] ?_;simp only [qao])|refine RS.fnT ?_|(refine RS.fn ?_;try simp only [qab,qae])|(refine RS.cl (hp:=by first|exact qcq _ h|exact pkOwn0 t hn|exact qgp _ _) (h:=?_);refine RS.rn ?_;simp only [qao])|(refine RS.sA (hc:=by exact ochk1 t) (k:=?_);refine RS.rn ?_;simp only [qao])|((refine WP.cn (fun hc=>?_) (fun hc=>?_))<;>try exact Bool.noConfusion hc)|(refine WP.skip ?_;try simp only [qab,qae])|(refine WP.exit ?_;try simp only [qb8,qbj,qbi,ne_eq,Nat.reduceEqDiff,not_false_eq_true,reduceCtorEq,qab,qae])|refine WP.block ?_|refine WP.loop_in ?_|refine WPIn.unroll ?_|(refine WP.ret ?_;(try simp only [qa1,qaz]);refine ret3 ?_))
    all_goals
     refine qaf ?_
     rw [hok,hn]
     clear hok
     simp_all [okAt]
   ·refine qaa.go Tryz.func96 rfl Tryz.ntmps96 rfl rfl rfl (fun C hro=>?_)
    have fx:=trivial
    refine WP.seq ?_
    refine WP.reg [0,1,2,4,5,7,9,11,13,14,22,37,39,40,41,42,48,51,52,53,54,59,64,65,66,67,72] (by kernel_rfl) (by kernel_rfl) ?_;refine RS.run2 (by simp only [go_sem,simprocAttr,qab];first|done|rfl) ?_;simp only [qao]
    first|refine RS.finT (by simp only [go_sem,simprocAttr];first|done|rfl) ?_|refine RS.fin (by simp only [go_sem,simprocAttr];first|done|rfl) ?_;(try simp only [qab,qae])
    refine WP.freeze 0 (Ty.at t) [(1,.a (.v (.int .i64 p))),(2,.a (.ref (Ty.at t) 0))] rfl (Ty.cl t) ?_ ?_
    ·simp only [qal,go_sem,simprocAttr]
    replace fx:=ai12 a0 (ai12 a1 (ai12 a2 (ai12 hnm (ai12 b0 (ai12 b1 (ai12 g0 (ai12 g1 (ai12 g2 (ai12 g3 (ai12 f0 (ai12 f1 (ai12 f2 (ai12 f3 trivial)))))))))))))
    repeat' (first|refine WP.seq ?_|(refine WP.rg [0,1,2,4,5,7,9,11,13,14,22,37,39,40,41,42,48,51,52,53,54,59,64,65,66,67,72] ?_;simp only [qao])|refine RS.fnT ?_|(refine RS.fn ?_;try simp only [qab,qae])|(refine RS.cl (hp:=by first|exact qcq _ h|exact pkOwn1 t hn|exact qgp _ _) (h:=?_);refine RS.rn ?_;simp only [qao])|(refine RS.sA (hc:=by exact ochk2 t) (k:=?_);refine RS.rn ?_;simp only [qao])|((refine WP.cn (fun hc=>?_) (fun hc=>?_))<;>try exact Bool.noConfusion hc)|(refine WP.skip ?_;try simp only [qab,qae])|(refine WP.exit ?_;try simp only [qb8,qbj,qbi,ne_eq,Nat.reduceEqDiff,not_false_eq_true,reduceCtorEq,qab,qae])|refine WP.block ?_|refine WP.loop_in ?_|refine WPIn.unroll ?_|(refine WP.ret ?_;(try simp only [qa1,qaz]);refine ret3 ?_))
    all_goals
     refine qaf ?_
     rw [hok,hn]
     clear hok
     simp_all [okAt]
   ·refine qaa.go Tryz.func96 rfl Tryz.ntmps96 rfl rfl rfl (fun C hro=>?_)
    have fx:=trivial
    refine WP.seq ?_
    refine WP.reg [0,1,2,4,5,7,9,11,13,14,22,37,39,40,41,42,48,51,52,53,54,59,64,65,66,67,72] (by kernel_rfl) (by kernel_rfl) ?_;refine RS.run2 (by simp only [go_sem,simprocAttr,qab];first|done|rfl) ?_;simp only [qao]
    first|refine RS.finT (by simp only [go_sem,simprocAttr];first|done|rfl) ?_|refine RS.fin (by simp only [go_sem,simprocAttr];first|done|rfl) ?_;(try simp only [qab,qae])
    refine WP.freeze 0 (Ty.at t) [(1,.a (.v (.int .i64 p))),(2,.a (.ref (Ty.at t) 0))] rfl (Ty.cl t) ?_ ?_
    ·simp only [qal,go_sem,simprocAttr]
    replace fx:=ai12 a0 (ai12 a1 (ai12 a2 (ai12 hnm (ai12 b0 (ai12 b1 (ai12 g0 (ai12 g1 (ai12 g2 (ai12 g3 (ai12 f0 (ai12 f1 (ai12 f2 (ai12 f3 trivial)))))))))))))
    repeat' (first|refine WP.seq ?_|(refine WP.rg [0,1,2,4,5,7,9,11,13,14,22,37,39,40,41,42,48,51,52,53,54,59,64,65,66,67,72] ?_;simp only [qao])|refine RS.fnT ?_|(refine RS.fn ?_;try simp only [qab,qae])|(refine RS.cl (hp:=by first|exact qcq _ h|exact pkOwn2 t hn|exact qgp _ _) (h:=?_);refine RS.rn ?_;simp only [qao])|(refine RS.sA (hc:=by exact ochk3 t) (k:=?_);refine RS.rn ?_;simp only [qao])|((refine WP.cn (fun hc=>?_) (fun hc=>?_))<;>try exact Bool.noConfusion hc)|(refine WP.skip ?_;try simp only [qab,qae])|(refine WP.exit ?_;try simp only [qb8,qbj,qbi,ne_eq,Nat.reduceEqDiff,not_false_eq_true,reduceCtorEq,qab,qae])|refine WP.block ?_|refine WP.loop_in ?_|refine WPIn.unroll ?_|(refine WP.ret ?_;(try simp only [qa1,qaz]);refine ret3 ?_))
    all_goals
     refine qaf ?_
     rw [hok,hn]
     clear hok
     simp_all [okAt]
   ·refine qaa.go Tryz.func96 rfl Tryz.ntmps96 rfl rfl rfl (fun C hro=>?_)
    have fx:=trivial
    refine WP.seq ?_
    refine WP.reg [0,1,2,4,5,7,9,11,13,14,22,37,39,40,41,42,48,51,52,53,54,59,64,65,66,67,72] (by kernel_rfl) (by kernel_rfl) ?_;refine RS.run2 (by simp only [go_sem,simprocAttr,qab];first|done|rfl) ?_;simp only [qao]
    first|refine RS.finT (by simp only [go_sem,simprocAttr];first|done|rfl) ?_|refine RS.fin (by simp only [go_sem,simprocAttr];first|done|rfl) ?_;(try simp only [qab,qae])
    refine WP.freeze 0 (Ty.at t) [(1,.a (.v (.int .i64 p))),(2,.a (.ref (Ty.at t) 0))] rfl (Ty.cl t) ?_ ?_
    ·simp only [qal,go_sem,simprocAttr]
    replace fx:=ai12 a0 (ai12 a1 (ai12 a2 (ai12 hnm (ai12 b0 (ai12 b1 (ai12 g0 (ai12 g1 (ai12 g2 (ai12 g3 (ai12 f0 (ai12 f1 (ai12 f2 (ai12 f3 trivial)))))))))))))
    repeat' (first|refine WP.seq ?_|(refine WP.rg [0,1,2,4,5,7,9,11,13,14,22,37,39,40,41,42,48,51,52,53,54,59,64,65,66,67,72] ?_;simp only [qao])|refine RS.fnT ?_|(refine RS.fn ?_;try simp only [qab,qae])|(refine RS.cl (hp:=by first|exact qcq _ h|exact pkOwn3 t hn|exact qgp _ _) (h:=?_);refine RS.rn ?_;simp only [qao])|(refine RS.sA (hc:=by exact ochk4 t) (k:=?_);refine RS.rn ?_;simp only [qao])|((refine WP.cn (fun hc=>?_) (fun hc=>?_))<;>try exact Bool.noConfusion hc)|(refine WP.skip ?_;try simp only [qab,qae])|(refine WP.exit ?_;try simp only [qb8,qbj,qbi,ne_eq,Nat.reduceEqDiff,not_false_eq_true,reduceCtorEq,qab,qae])|refine WP.block ?_|refine WP.loop_in ?_|refine WPIn.unroll ?_|(refine WP.ret ?_;(try simp only [qa1,qaz]);refine ret3 ?_))
    all_goals
     refine qaf ?_
     rw [hok,hn]
     clear hok
     simp_all [okAt]
 ·have a2:=beqF k2
  refine qaa.go Tryz.func96 rfl Tryz.ntmps96 rfl rfl rfl (fun C hro=>?_)
  have fx:=trivial
  refine WP.seq ?_
  refine WP.reg [0,1,2,4,5,7,9,11,13,14,22,37,39,40,41,42,48,51,52,53,54,59,64,65,66,67,72] (by kernel_rfl) (by kernel_rfl) ?_;refine RS.run2 (by simp only [go_sem,simprocAttr,qab];first|done|rfl) ?_;simp only [qao]
  first|refine RS.finT (by simp only [go_sem,simprocAttr];first|done|rfl) ?_|refine RS.fin (by simp only [go_sem,simprocAttr];first|done|rfl) ?_;(try simp only [qab,qae])
  refine WP.freeze 0 (Ty.at t) [(1,.a (.v (.int .i64 p))),(2,.a (.ref (Ty.at t) 0))] rfl (Ty.cl t) ?_ ?_
  ·simp only [qal,go_sem,simprocAttr]
  replace fx:=ai12 a0 (ai12 a1 (ai12 a2 trivial))
  repeat' (first|refine stp [0,1,2,4,5,7,9,11,13,14,22,37,39,40,41,42,48,51,52,53,54,59,64,65,66,67,72] ?_|refine WP.cn (fun hc=>?_) (fun hc=>?_)|fail)
  exact qaf (qay t p k0 k1 k2).symm
end Go.Proofs.YtfbopaaambkfkaaGreatDoor
