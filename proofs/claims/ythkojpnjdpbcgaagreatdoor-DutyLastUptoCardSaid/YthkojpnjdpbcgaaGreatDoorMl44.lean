/- The program's types, on plain data. Conditions: no text longer than 10^9 bytes. -/
import Derived.Test.YthkojpnjdpbcgaaGreatDoorMl27
import Derived.Test.YthkojpnjdpbcgaaGreatDoorMl6
import Derived.Test.YthkojpnjdpbcgaaGreatDoorMl43
import Derived.Test.YthkojpnjdpbcgaaGreatDoorMl28
import Derived.Test.YthkojpnjdpbcgaaGreatDoorMl37
import Derived.Test.YthkojpnjdpbcgaaGreatDoorMl29
set_option linter.unusedVariables false
set_option maxRecDepth 100000
set_option maxHeartbeats 8000000
set_option linter.unusedSimpArgs false
namespace Go.Proofs.YthkojpnjdpbcgaaGreatDoor
open Go.RowKit
theorem qdz (t:Ty) (l h:Nat) (hh:h≤4) (hl:l≤h):qd8 (Ty.at t) 3 2 l h=((t.own.take h).drop l).map owAt:=by
 obtain⟨k,cls,n,⟨a0,b0⟩,⟨a1,b1⟩,⟨a2,b2⟩,⟨a3,b3⟩⟩:=t
 have:h=0∨h=1∨h=2∨h=3∨h=4:=by omega
 have:l=0∨l=1∨l=2∨l=3∨l=4:=by omega
 rcases ‹h=0∨_› with rfl|rfl|rfl|rfl|rfl<;>rcases ‹l=0∨_› with rfl|rfl|rfl|rfl|rfl<;>first|rfl|omega
theorem pkOwn (t:Ty) (N:Nat) (hN:N≤3) (h:max 0 (min t.n 3)=(N:Int)):qaa Tryz.prog 138 [.a (.ref (Ty.at t) 0)] (.a (.sl ((t.own.take (N+1)).map owAt))):=by
 have:N=0∨N=1∨N=2∨N=3:=by omega
 rcases this with rfl|rfl|rfl|rfl
 all_goals
  refine qaa.go Tryz.func138 rfl Tryz.ntmps138 rfl rfl rfl (fun C hro=>?_)
  have fx:=trivial
  replace fx:=ai15 h trivial
  repeat' (first|refine WP.seq ?_|(refine WP.rg [0,2,3] ?_;simp only [qai])|refine RS.fnT ?_|(refine RS.sA (hc:=by exact qdz t _ _ (by decide) (by decide)) (k:=?_);refine RS.rn ?_;simp only [qai])|(refine WP.ret ?_;(try simp only [qbc,qa0]);refine ret3 ?_))
  exact congrArg (fun l=>D.a (.sl (l.map owAt))) (List.drop_zero ..)
theorem ixl0 {q2:Option (Nat×Nat)} {a:Int×Int} {l:List (List A)}:ixD (some 2) q2 (.a (.sl (owAt a::l))) (.a (.v (.int .i64 0)))=some (.a (.ref (owAt a) 0)):=by refine qaq (j:=0) (row:=owAt a) ?_ ?_ ?_<;>rfl
theorem ixl1 {q2:Option (Nat×Nat)} {a b:Int×Int} {l:List (List A)}:ixD (some 2) q2 (.a (.sl (owAt a::owAt b::l))) (.a (.v (.int .i64 1)))=some (.a (.ref (owAt b) 0)):=by refine qaq (j:=1) (row:=owAt b) ?_ ?_ ?_<;>rfl
theorem ixl2 {q2:Option (Nat×Nat)} {a b c:Int×Int} {l:List (List A)}:ixD (some 2) q2 (.a (.sl (owAt a::owAt b::owAt c::l))) (.a (.v (.int .i64 2)))=some (.a (.ref (owAt c) 0)):=by refine qaq (j:=2) (row:=owAt c) ?_ ?_ ?_<;>rfl
theorem ixl3 {q2:Option (Nat×Nat)} {a b c d:Int×Int} {l:List (List A)}:ixD (some 2) q2 (.a (.sl (owAt a::owAt b::owAt c::owAt d::l))) (.a (.v (.int .i64 3)))=some (.a (.ref (owAt d) 0)):=by refine qaq (j:=3) (row:=owAt d) ?_ ?_ ?_<;>rfl
theorem owLen (a:Int×Int):(owAt a).length=2:=rfl
theorem qm5 {e:Nat→D} {a:Int×Int} {l:List (List A)} (h:(l.all fun r=>r.length==2)=true):slD Tryz.prog 28 e (some (.const (.int .i64 1))) none (.a (.sl (owAt a::l)))=some (.a (.sl l)):=by
 have h1:es Tryz.prog 28=some 2:=by simp only [go_sem];first|done|rfl
 have h2:qay 2 (owAt a::l)=true:=by simp only [qay,List.all_cons,owLen,h];rfl
 have h3:1≤l.length+1:=by omega
 have h4:1<9223372036854775807:=by omega
 simp only [slD,h1,h2,if_true,bndD,lowD,List.length_cons,Option.bind_some]
 simp [evO,go_sem]
 refine⟨1,?_,rfl⟩
 have h5:(0:Int)≤1∧(1:Int)≤(l.length:Int)+1:=by omega
 show (if (0:Int)≤1∧(1:Int)≤(l.length:Int)+1 then some (1:Int).toNat else none)=some 1
 rw [if_pos h5];rfl
theorem owFrom0 {e:Nat→D} {a:Int×Int}:slD Tryz.prog 28 e (some (.const (.int .i64 1))) none (.a (.sl [owAt a]))=some (.a (.sl [])):=qm5 rfl
theorem pkOwn0 (t:Ty) (h:t.n=0):qaa Tryz.prog 138 [.a (.ref (Ty.at t) 0)] (.a (.sl [owAt t.o0])):=pkOwn t 0 (by decide) (by rw [h];rfl)
theorem pkOwn1 (t:Ty) (h:t.n=1):qaa Tryz.prog 138 [.a (.ref (Ty.at t) 0)] (.a (.sl [owAt t.o0,owAt t.o1])):=pkOwn t 1 (by decide) (by rw [h];rfl)
theorem pkOwn2 (t:Ty) (h:t.n=2):qaa Tryz.prog 138 [.a (.ref (Ty.at t) 0)] (.a (.sl [owAt t.o0,owAt t.o1,owAt t.o2])):=pkOwn t 2 (by decide) (by rw [h];rfl)
theorem pkOwn3 (t:Ty) (h:t.n=3):qaa Tryz.prog 138 [.a (.ref (Ty.at t) 0)] (.a (.sl [owAt t.o0,owAt t.o1,owAt t.o2,owAt t.o3])):=pkOwn t 3 (by decide) (by rw [h];rfl)
theorem ochk1 (t:Ty):qd8 (Ty.at t) 3 2 1 4=[owAt t.o1,owAt t.o2,owAt t.o3]:=qdz t 1 4 (by decide) (by decide)
theorem ochk2 (t:Ty):qd8 (Ty.at t) 3 2 2 4=[owAt t.o2,owAt t.o3]:=qdz t 2 4 (by decide) (by decide)
theorem ochk3 (t:Ty):qd8 (Ty.at t) 3 2 3 4=[owAt t.o3]:=qdz t 3 4 (by decide) (by decide)
theorem ochk4 (t:Ty):qd8 (Ty.at t) 3 2 4 4=[]:=qdz t 4 4 (by decide) (by decide)
theorem ty_name (t:Ty) (p:Int) (h:t.kind=2) (hn:qaw t.cls=false):tyB t p=false:=by rw [ty2 t p h,hn];rfl
theorem ty_num (t:Ty) (p:Int) (h:t.kind=2) (hn:t.n<0∨3<t.n):tyB t p=false:=by
 rw [ty2 t p h]
 rcases hn with hn|hn
 ·rw [decide_eq_false (show ¬0≤t.n by omega)];simp
 ·rw [decide_eq_false (show ¬t.n≤3 by omega)];simp
theorem qa6 (t:Ty) (p:Int) (h0:t.kind≠0) (h1:t.kind≠1) (h2:t.kind≠2):tyB t p=false:=by
 unfold tyB;rw [if_neg (by omega),if_neg h2]
theorem ty_ok (t:Ty) (p:Int) (h:t.kind=2) (hn:qaw t.cls=true) (h0:0≤t.n) (h3:t.n≤3):tyB t p=(okAt t.n p 0 t.o0&&(okAt t.n p 1 t.o1&&(okAt t.n p 2 t.o2&&okAt t.n p 3 t.o3))):=by
 rw [ty2 t p h,hn,decide_eq_true h0,decide_eq_true h3];rfl
theorem pkRight (t:Ty) (p:Int) (h:t.cls.length≤1000000000):qaa Tryz.prog 197 [.r (Ty.at t),.a (.v (.int .i64 p))] (.a (.v (.bool (tyB t p)))):=by
 obtain⟨o0,o1,o2,o3⟩:=ty_own_ld t
 have g0:=fun q2 a l=>@ixl0 q2 a l
 have g1:=fun q2 a b l=>@ixl1 q2 a b l
 have g2:=fun q2 a b c l=>@ixl2 q2 a b c l
 have g3:=fun q2 a b c d l=>@ixl3 q2 a b c d l
 have f0:=fun e a=>@owFrom0 e a
 have f1:∀(e:Nat→D) (a b:Int×Int),slD Tryz.prog 28 e (some (.const (.int .i64 1))) none (.a (.sl [owAt a,owAt b]))=some (.a (.sl [owAt b])):=fun _ _ _=>qm5 rfl
 have f2:∀(e:Nat→D) (a b c:Int×Int),slD Tryz.prog 28 e (some (.const (.int .i64 1))) none (.a (.sl [owAt a,owAt b,owAt c]))=some (.a (.sl [owAt b,owAt c])):=fun _ _ _ _=>qm5 rfl
 have f3:∀(e:Nat→D) (a b c d:Int×Int),slD Tryz.prog 28 e (some (.const (.int .i64 1))) none (.a (.sl [owAt a,owAt b,owAt c,owAt d]))=some (.a (.sl [owAt b,owAt c,owAt d])):=fun _ _ _ _ _=>qm5 rfl
 by_cases k0:t.kind=0
 ·have a0:(t.kind==0)=true:=beq_iff_eq.2 k0
  refine qaa.go Tryz.func197 rfl Tryz.ntmps197 rfl rfl rfl (fun C hro=>?_)
  have fx:=trivial
  refine WP.seq ?_
  refine WP.reg [0,1,2,4,5,7,9,11,13,14,22,37,39,40,41,42,48,51,52,53,54,59,64,65,66,67,72] (by kernel_rfl) (by kernel_rfl) ?_;refine RS.run2 (by simp only [go_sem,simprocAttr,qab];first|done|rfl) ?_;simp only [qai]
  first|refine RS.finT (by simp only [go_sem,simprocAttr];first|done|rfl) ?_|refine RS.fin (by simp only [go_sem,simprocAttr];first|done|rfl) ?_;(try simp only [qab,qac])
  refine WP.freeze 0 (Ty.at t) [(1,.a (.v (.int .i64 p))),(2,.a (.ref (Ty.at t) 0))] rfl (Ty.cl t) ?_ ?_
  ·simp only [qal,go_sem,simprocAttr]
  replace fx:=ai15 a0 trivial
  repeat' (first|refine stp [0,1,2,4,5,7,9,11,13,14,22,37,39,40,41,42,48,51,52,53,54,59,64,65,66,67,72] ?_|fail)
  refine qam ?_
  unfold tyB;rw [if_pos (.inl k0)]
 have a0:=beqF k0
 by_cases k1:t.kind=1
 ·have a1:(t.kind==1)=true:=beq_iff_eq.2 k1
  refine qaa.go Tryz.func197 rfl Tryz.ntmps197 rfl rfl rfl (fun C hro=>?_)
  have fx:=trivial
  refine WP.seq ?_
  refine WP.reg [0,1,2,4,5,7,9,11,13,14,22,37,39,40,41,42,48,51,52,53,54,59,64,65,66,67,72] (by kernel_rfl) (by kernel_rfl) ?_;refine RS.run2 (by simp only [go_sem,simprocAttr,qab];first|done|rfl) ?_;simp only [qai]
  first|refine RS.finT (by simp only [go_sem,simprocAttr];first|done|rfl) ?_|refine RS.fin (by simp only [go_sem,simprocAttr];first|done|rfl) ?_;(try simp only [qab,qac])
  refine WP.freeze 0 (Ty.at t) [(1,.a (.v (.int .i64 p))),(2,.a (.ref (Ty.at t) 0))] rfl (Ty.cl t) ?_ ?_
  ·simp only [qal,go_sem,simprocAttr]
  replace fx:=ai15 a0 (ai15 a1 trivial)
  repeat' (first|refine stp [0,1,2,4,5,7,9,11,13,14,22,37,39,40,41,42,48,51,52,53,54,59,64,65,66,67,72] ?_|fail)
  refine qam ?_
  unfold tyB;rw [if_pos (.inr k1)]
 have a1:=beqF k1
 by_cases k2:t.kind=2
 ·have a2:(t.kind==2)=true:=beq_iff_eq.2 k2
  cases hnm:qaw t.cls with
  | false =>
   refine qaa.go Tryz.func197 rfl Tryz.ntmps197 rfl rfl rfl (fun C hro=>?_)
   have fx:=trivial
   refine WP.seq ?_
   refine WP.reg [0,1,2,4,5,7,9,11,13,14,22,37,39,40,41,42,48,51,52,53,54,59,64,65,66,67,72] (by kernel_rfl) (by kernel_rfl) ?_;refine RS.run2 (by simp only [go_sem,simprocAttr,qab];first|done|rfl) ?_;simp only [qai]
   first|refine RS.finT (by simp only [go_sem,simprocAttr];first|done|rfl) ?_|refine RS.fin (by simp only [go_sem,simprocAttr];first|done|rfl) ?_;(try simp only [qab,qac])
   refine WP.freeze 0 (Ty.at t) [(1,.a (.v (.int .i64 p))),(2,.a (.ref (Ty.at t) 0))] rfl (Ty.cl t) ?_ ?_
   ·simp only [qal,go_sem,simprocAttr]
   replace fx:=ai15 a0 (ai15 a1 (ai15 a2 (ai15 hnm (ai15 @Bool.not_false (ai15 @Bool.true_or (ai15 @Bool.false_or trivial))))))
   repeat' (first|refine stp [0,1,2,4,5,7,9,11,13,14,22,37,39,40,41,42,48,51,52,53,54,59,64,65,66,67,72] ?_|(refine stc (r1:=by exact qdw _ h) (r2:=?_);refine rnx ?_)|fail)
   exact qam (ty_name t p k2 hnm).symm
  | true =>
   by_cases hn0:t.n<0
   ·have b0:decide (t.n<0)=true:=decide_eq_true hn0
    refine qaa.go Tryz.func197 rfl Tryz.ntmps197 rfl rfl rfl (fun C hro=>?_)
    have fx:=trivial
    refine WP.seq ?_
    refine WP.reg [0,1,2,4,5,7,9,11,13,14,22,37,39,40,41,42,48,51,52,53,54,59,64,65,66,67,72] (by kernel_rfl) (by kernel_rfl) ?_;refine RS.run2 (by simp only [go_sem,simprocAttr,qab];first|done|rfl) ?_;simp only [qai]
    first|refine RS.finT (by simp only [go_sem,simprocAttr];first|done|rfl) ?_|refine RS.fin (by simp only [go_sem,simprocAttr];first|done|rfl) ?_;(try simp only [qab,qac])
    refine WP.freeze 0 (Ty.at t) [(1,.a (.v (.int .i64 p))),(2,.a (.ref (Ty.at t) 0))] rfl (Ty.cl t) ?_ ?_
    ·simp only [qal,go_sem,simprocAttr]
    replace fx:=ai15 a0 (ai15 a1 (ai15 a2 (ai15 hnm (ai15 b0 (ai15 @Bool.not_true (ai15 @Bool.false_or (ai15 @Bool.true_or trivial)))))))
    repeat' (first|refine stp [0,1,2,4,5,7,9,11,13,14,22,37,39,40,41,42,48,51,52,53,54,59,64,65,66,67,72] ?_|(refine stc (r1:=by exact qdw _ h) (r2:=?_);refine rnx ?_)|fail)
    exact qam (ty_num t p k2 (.inl hn0)).symm
   have b0:decide (t.n<0)=false:=decide_eq_false hn0
   by_cases hn3:3<t.n
   ·have b1:decide (t.n>3)=true:=decide_eq_true hn3
    refine qaa.go Tryz.func197 rfl Tryz.ntmps197 rfl rfl rfl (fun C hro=>?_)
    have fx:=trivial
    refine WP.seq ?_
    refine WP.reg [0,1,2,4,5,7,9,11,13,14,22,37,39,40,41,42,48,51,52,53,54,59,64,65,66,67,72] (by kernel_rfl) (by kernel_rfl) ?_;refine RS.run2 (by simp only [go_sem,simprocAttr,qab];first|done|rfl) ?_;simp only [qai]
    first|refine RS.finT (by simp only [go_sem,simprocAttr];first|done|rfl) ?_|refine RS.fin (by simp only [go_sem,simprocAttr];first|done|rfl) ?_;(try simp only [qab,qac])
    refine WP.freeze 0 (Ty.at t) [(1,.a (.v (.int .i64 p))),(2,.a (.ref (Ty.at t) 0))] rfl (Ty.cl t) ?_ ?_
    ·simp only [qal,go_sem,simprocAttr]
    replace fx:=ai15 a0 (ai15 a1 (ai15 a2 (ai15 hnm (ai15 b0 (ai15 b1 (ai15 @Bool.not_true (ai15 @Bool.false_or trivial)))))))
    repeat' (first|refine stp [0,1,2,4,5,7,9,11,13,14,22,37,39,40,41,42,48,51,52,53,54,59,64,65,66,67,72] ?_|(refine stc (r1:=by exact qdw _ h) (r2:=?_);refine rnx ?_)|fail)
    exact qam (ty_num t p k2 (.inr hn3)).symm
   have b1:decide (t.n>3)=false:=decide_eq_false hn3
   have hok:=ty_ok t p k2 hnm (by omega) (by omega)
   have:t.n=0∨t.n=1∨t.n=2∨t.n=3:=by omega
   rcases this with hn|hn|hn|hn
   ·refine qaa.go Tryz.func197 rfl Tryz.ntmps197 rfl rfl rfl (fun C hro=>?_)
    have fx:=trivial
    refine WP.seq ?_
    refine WP.reg [0,1,2,4,5,7,9,11,13,14,22,37,39,40,41,42,48,51,52,53,54,59,64,65,66,67,72] (by kernel_rfl) (by kernel_rfl) ?_;refine RS.run2 (by simp only [go_sem,simprocAttr,qab];first|done|rfl) ?_;simp only [qai]
    first|refine RS.finT (by simp only [go_sem,simprocAttr];first|done|rfl) ?_|refine RS.fin (by simp only [go_sem,simprocAttr];first|done|rfl) ?_;(try simp only [qab,qac])
    refine WP.freeze 0 (Ty.at t) [(1,.a (.v (.int .i64 p))),(2,.a (.ref (Ty.at t) 0))] rfl (Ty.cl t) ?_ ?_
    ·simp only [qal,go_sem,simprocAttr]
    replace fx:=ai15 a0 (ai15 a1 (ai15 a2 (ai15 hnm (ai15 b0 (ai15 b1 (ai15 g0 (ai15 g1 (ai15 g2 (ai15 g3 (ai15 f0 (ai15 f1 (ai15 f2 (ai15 f3 trivial)))))))))))))
    repeat' (first|refine WP.seq ?_|(refine WP.rg [0,1,2,4,5,7,9,11,13,14,22,37,39,40,41,42,48,51,52,53,54,59,64,65,66,67,72] ?_;simp only [qai])|refine RS.fnT ?_|(refine RS.cl (hp:=by first|exact qdw _ h|exact pkOwn0 t hn|exact qje _ _) (h:=?_);refine RS.rn ?_;simp only [qai])|(refine RS.sA (hc:=by exact ochk1 t) (k:=?_);refine RS.rn ?_;simp only [qai])|((refine WP.cn (fun hc=>?_) (fun hc=>?_))<;>try exact Bool.noConfusion hc)|(refine WP.skip ?_;try simp only [qab,qac])|(refine WP.exit ?_;try simp only [qds,qcz,qcy,ne_eq,Nat.reduceEqDiff,not_false_eq_true,reduceCtorEq,qab,qac])|refine WP.block ?_|refine WP.loop_in ?_|refine WPIn.unroll ?_|(refine WP.ret ?_;(try simp only [qbc,qa0]);refine ret3 ?_))
    all_goals
     refine qam ?_
     rw [hok,hn]
     clear hok
     simp_all [okAt]
   ·refine qaa.go Tryz.func197 rfl Tryz.ntmps197 rfl rfl rfl (fun C hro=>?_)
    have fx:=trivial
    refine WP.seq ?_
    refine WP.reg [0,1,2,4,5,7,9,11,13,14,22,37,39,40,41,42,48,51,52,53,54,59,64,65,66,67,72] (by kernel_rfl) (by kernel_rfl) ?_;refine RS.run2 (by simp only [go_sem,simprocAttr,qab];first|done|rfl) ?_;simp only [qai]
    first|refine RS.finT (by simp only [go_sem,simprocAttr];first|done|rfl) ?_|refine RS.fin (by simp only [go_sem,simprocAttr];first|done|rfl) ?_;(try simp only [qab,qac])
    refine WP.freeze 0 (Ty.at t) [(1,.a (.v (.int .i64 p))),(2,.a (.ref (Ty.at t) 0))] rfl (Ty.cl t) ?_ ?_
    ·simp only [qal,go_sem,simprocAttr]
    replace fx:=ai15 a0 (ai15 a1 (ai15 a2 (ai15 hnm (ai15 b0 (ai15 b1 (ai15 g0 (ai15 g1 (ai15 g2 (ai15 g3 (ai15 f0 (ai15 f1 (ai15 f2 (ai15 f3 trivial)))))))))))))
    repeat' (first|refine WP.seq ?_|(refine WP.rg [0,1,2,4,5,7,9,11,13,14,22,37,39,40,41,42,48,51,52,53,54,59,64,65,66,67,72] ?_;simp only [qai])|refine RS.fnT ?_|(refine RS.cl (hp:=by first|exact qdw _ h|exact pkOwn1 t hn|exact qje _ _) (h:=?_);refine RS.rn ?_;simp only [qai])|(refine RS.sA (hc:=by exact ochk2 t) (k:=?_);refine RS.rn ?_;simp only [qai])|((refine WP.cn (fun hc=>?_) (fun hc=>?_))<;>try exact Bool.noConfusion hc)|(refine WP.skip ?_;try simp only [qab,qac])|(refine WP.exit ?_;try simp only [qds,qcz,qcy,ne_eq,Nat.reduceEqDiff,not_false_eq_true,reduceCtorEq,qab,qac])|refine WP.block ?_|refine WP.loop_in ?_|refine WPIn.unroll ?_|(refine WP.ret ?_;(try simp only [qbc,qa0]);refine ret3 ?_))
    all_goals
     refine qam ?_
     rw [hok,hn]
     clear hok
     simp_all [okAt]
   ·refine qaa.go Tryz.func197 rfl Tryz.ntmps197 rfl rfl rfl (fun C hro=>?_)
    have fx:=trivial
    refine WP.seq ?_
    refine WP.reg [0,1,2,4,5,7,9,11,13,14,22,37,39,40,41,42,48,51,52,53,54,59,64,65,66,67,72] (by kernel_rfl) (by kernel_rfl) ?_;refine RS.run2 (by simp only [go_sem,simprocAttr,qab];first|done|rfl) ?_;simp only [qai]
    first|refine RS.finT (by simp only [go_sem,simprocAttr];first|done|rfl) ?_|refine RS.fin (by simp only [go_sem,simprocAttr];first|done|rfl) ?_;(try simp only [qab,qac])
    refine WP.freeze 0 (Ty.at t) [(1,.a (.v (.int .i64 p))),(2,.a (.ref (Ty.at t) 0))] rfl (Ty.cl t) ?_ ?_
    ·simp only [qal,go_sem,simprocAttr]
    replace fx:=ai15 a0 (ai15 a1 (ai15 a2 (ai15 hnm (ai15 b0 (ai15 b1 (ai15 g0 (ai15 g1 (ai15 g2 (ai15 g3 (ai15 f0 (ai15 f1 (ai15 f2 (ai15 f3 trivial)))))))))))))
    repeat' (first|refine WP.seq ?_|(refine WP.rg [0,1,2,4,5,7,9,11,13,14,22,37,39,40,41,42,48,51,52,53,54,59,64,65,66,67,72] ?_;simp only [qai])|refine RS.fnT ?_|(refine RS.cl (hp:=by first|exact qdw _ h|exact pkOwn2 t hn|exact qje _ _) (h:=?_);refine RS.rn ?_;simp only [qai])|(refine RS.sA (hc:=by exact ochk3 t) (k:=?_);refine RS.rn ?_;simp only [qai])|((refine WP.cn (fun hc=>?_) (fun hc=>?_))<;>try exact Bool.noConfusion hc)|(refine WP.skip ?_;try simp only [qab,qac])|(refine WP.exit ?_;try simp only [qds,qcz,qcy,ne_eq,Nat.reduceEqDiff,not_false_eq_true,reduceCtorEq,qab,qac])|refine WP.block ?_|refine WP.loop_in ?_|refine WPIn.unroll ?_|(refine WP.ret ?_;(try simp only [qbc,qa0]);refine ret3 ?_))
    all_goals
     refine qam ?_
     rw [hok,hn]
     clear hok
     simp_all [okAt]
   ·refine qaa.go Tryz.func197 rfl Tryz.ntmps197 rfl rfl rfl (fun C hro=>?_)
    have fx:=trivial
    refine WP.seq ?_
    refine WP.reg [0,1,2,4,5,7,9,11,13,14,22,37,39,40,41,42,48,51,52,53,54,59,64,65,66,67,72] (by kernel_rfl) (by kernel_rfl) ?_;refine RS.run2 (by simp only [go_sem,simprocAttr,qab];first|done|rfl) ?_;simp only [qai]
    first|refine RS.finT (by simp only [go_sem,simprocAttr];first|done|rfl) ?_|refine RS.fin (by simp only [go_sem,simprocAttr];first|done|rfl) ?_;(try simp only [qab,qac])
    refine WP.freeze 0 (Ty.at t) [(1,.a (.v (.int .i64 p))),(2,.a (.ref (Ty.at t) 0))] rfl (Ty.cl t) ?_ ?_
    ·simp only [qal,go_sem,simprocAttr]
    replace fx:=ai15 a0 (ai15 a1 (ai15 a2 (ai15 hnm (ai15 b0 (ai15 b1 (ai15 g0 (ai15 g1 (ai15 g2 (ai15 g3 (ai15 f0 (ai15 f1 (ai15 f2 (ai15 f3 trivial)))))))))))))
    repeat' (first|refine WP.seq ?_|(refine WP.rg [0,1,2,4,5,7,9,11,13,14,22,37,39,40,41,42,48,51,52,53,54,59,64,65,66,67,72] ?_;simp only [qai])|refine RS.fnT ?_|(refine RS.cl (hp:=by first|exact qdw _ h|exact pkOwn3 t hn|exact qje _ _) (h:=?_);refine RS.rn ?_;simp only [qai])|(refine RS.sA (hc:=by exact ochk4 t) (k:=?_);refine RS.rn ?_;simp only [qai])|((refine WP.cn (fun hc=>?_) (fun hc=>?_))<;>try exact Bool.noConfusion hc)|(refine WP.skip ?_;try simp only [qab,qac])|(refine WP.exit ?_;try simp only [qds,qcz,qcy,ne_eq,Nat.reduceEqDiff,not_false_eq_true,reduceCtorEq,qab,qac])|refine WP.block ?_|refine WP.loop_in ?_|refine WPIn.unroll ?_|(refine WP.ret ?_;(try simp only [qbc,qa0]);refine ret3 ?_))
    all_goals
     refine qam ?_
     rw [hok,hn]
     clear hok
     simp_all [okAt]
 ·have a2:=beqF k2
  refine qaa.go Tryz.func197 rfl Tryz.ntmps197 rfl rfl rfl (fun C hro=>?_)
  have fx:=trivial
  refine WP.seq ?_
  refine WP.reg [0,1,2,4,5,7,9,11,13,14,22,37,39,40,41,42,48,51,52,53,54,59,64,65,66,67,72] (by kernel_rfl) (by kernel_rfl) ?_;refine RS.run2 (by simp only [go_sem,simprocAttr,qab];first|done|rfl) ?_;simp only [qai]
  first|refine RS.finT (by simp only [go_sem,simprocAttr];first|done|rfl) ?_|refine RS.fin (by simp only [go_sem,simprocAttr];first|done|rfl) ?_;(try simp only [qab,qac])
  refine WP.freeze 0 (Ty.at t) [(1,.a (.v (.int .i64 p))),(2,.a (.ref (Ty.at t) 0))] rfl (Ty.cl t) ?_ ?_
  ·simp only [qal,go_sem,simprocAttr]
  replace fx:=ai15 a0 (ai15 a1 (ai15 a2 trivial))
  repeat' (first|refine stp [0,1,2,4,5,7,9,11,13,14,22,37,39,40,41,42,48,51,52,53,54,59,64,65,66,67,72] ?_|fail)
  exact qam (qa6 t p k0 k1 k2).symm
theorem qer {α:Type} (l:List α) (f:α→Bool):(!l.any fun k=>!f k)=l.all f:=by
 induction l with
 | nil=>rfl
 | cons x r ih=>rw [List.any_cons,List.all_cons,←ih];cases f x<;>simp
def qnx (b16 b32 b64:Bool) (s:St) (p:Int):Bool :=
 (bif b16 then s.ty.kind==2&&tyB s.ty p else decide (s.ty=Ty.zero)) &&
 ((bif (!b32||(s.kind==11&&s.e.sameB Ex.zero)) then s.e.sameB Ex.zero else s.e.rightB&&!(s.kind==6&&s.e.kind != 2&&s.e.kind != 3&&s.e.kind != 4)) &&
 (bif !b64 then (s.args.length:Int)==0 else decide ((s.args.length:Int)≤5)&&s.args.all Ex.rightB))
def toldP (h:Int) (s:St) (p:Int):Bool:=qnx (qbg h 16) (qbg h 32) (qbg h 64) s p
theorem psTold1 (e:Ex) (hz:e.sz≤1048576):qaa Tryz.prog 200 [.r (Ex.at e)] (.a (.v (.bool (!e.rightB)))):=by
 refine qaa.go Tryz.func200 rfl Tryz.ntmps200 rfl rfl rfl (fun C hro=>?_)
 have fx:=trivial
 repeat' (first|refine stp [0,1,2] ?_|(refine stc (r1:=by exact qlr e hz) (r2:=?_);refine rnx ?_)|fail)
 rfl
theorem psTold (s:St) (h p:Int) (b16 b32 b64:Bool) (e16:(bitP h 16==0) = !b16) (e32:(bitP h 32==0) = !b32) (e64:(bitP h 64==0) = !b64) (hz:s.sz≤1048576):qaa Tryz.prog 152 [.r (St.at s),.a (.v (.int .i64 h)),.a (.v (.int .i64 p))] (.a (.v (.bool (qnx b16 b32 b64 s p)))):=by
 have hse:=s.sz_eq
 have f16:(bitP h 16 != 0)=b16:=by unfold bne;rw [e16,Bool.not_not]
 have hasz:∀k∈s.args,k.sz≤1048576:=fun k hk=>by have:=Ex.szs_mem hk;omega
 have hal:s.args.length≤1048576:=by have:=Ex.szs_len s.args;omega
 refine qaa.go Tryz.func152 rfl Tryz.ntmps152 rfl rfl rfl (fun C hro=>?_)
 have fx:=trivial
 replace fx:=ai15 e16 (ai15 f16 (ai15 e32 (ai15 e64 trivial)))
 repeat' (first|refine stp [0,1,2,3,6,33,34,51,52,57,81] ?_|(refine stc (r1:=by first|exact pkRight s.ty p (by omega)|exact psNone s.e (by omega)|exact qlr s.e (by omega)|exact qls (fun k=>!k.rightB) s.args 200 [] rfl hal fun k hk=>psTold1 k (hasz k hk)) (r2:=?_);refine rnx ?_)|refine WP.cn (fun hc=>?_) (fun hc=>?_)|fail)
 all_goals
  refine qam ?_
  unfold qnx
  clear e16 e32 e64 f16
  try rw [qer]
  cases b16<;>cases b32<;>cases b64<;>simp_all<;>first|(intros;omega)|(rcases ‹¬s.ty.kind=2∨tyB s.ty p=false› with h|h<;>intro h1 h2<;>simp_all)
def qkv (s:St) (p:Int):Bool :=
 hasP s.kind != 0&&(qm8 (hasP s.kind) s&&(toldP (hasP s.kind) s p&&((qbg (hasP s.kind) 128||(s.body.length:Int)==0)&&(qbg (hasP s.kind) 256||(s.els.length:Int)==0))))
theorem len0 {α:Type} (l:List α):((l.length:Int)==0)=l.isEmpty:=by cases l<;>simp;omega
theorem add0 (a b c:Nat):(((a+b+c:Nat):Int)==0)=((a:Int)==0&&((b:Int)==0&&(c:Int)==0)):=by
 rw [Bool.eq_iff_iff];simp;omega
theorem sum3 {α β γ:Type} (l:List α) (m:List β) (n:List γ):((l.length:Int)+(m.length:Int)+(n.length:Int)==0)=(l.isEmpty&&(m.isEmpty&&n.isEmpty)):=by
 rw [←len0,←len0,←len0,Bool.eq_iff_iff];simp only [beq_iff_eq,Bool.and_eq_true];omega
theorem sum2 {α β:Type} (l:List α) (m:List β):((l.length:Int)+(m.length:Int)==0)=(l.isEmpty&&m.isEmpty):=by
 rw [←len0,←len0,Bool.eq_iff_iff];simp only [beq_iff_eq,Bool.and_eq_true];omega
theorem n5 (m:Int):(!decide (5<m))=decide (m≤5):=by
 rw [Bool.eq_iff_iff];simp
theorem zz:Ex.zero.sameB Ex.zero=true:=by decide
theorem qm7 (s:St) (p:Int):qkv s p = !(!St.onlyB s||!St.namesB s p||!St.tellsB s):=by
 obtain⟨k,x,y,n,t,e,args,body,els,a⟩:=s
 by_cases hin:1≤k∧k≤11
 ·have:k=1∨k=2∨k=3∨k=4∨k=5∨k=6∨k=7∨k=8∨k=9∨k=10∨k=11:=by omega
  clear hin
  rcases this with rfl|rfl|rfl|rfl|rfl|rfl|rfl|rfl|rfl|rfl|rfl
  all_goals
   simp [qkv,hasP,qm8,qin,toldP,qnx,qbg,St.onlyB,St.blank,St.namesB,St.tellsB,St.noneB,zz,len0,add0]
   simp only [sum3,sum2,n5]
   first|(cases args<;>simp [Bool.and_assoc,Bool.and_comm,Bool.and_left_comm,Bool.or_comm];done)|skip
 ·have h0:hasP k=0:=by unfold hasP;repeat' (first|omega|fail)
  have h1:qkv ⟨k,x,y,n,t,e,args,body,els,a⟩ p=false:=by unfold qkv;dsimp only;rw [h0];rfl
  have h2:St.onlyB ⟨k,x,y,n,t,e,args,body,els,a⟩=false:=by
   have:(decide (k≥1)&&decide (k≤11))=false:=by
    rw [Bool.and_eq_false_iff,decide_eq_false_iff_not,decide_eq_false_iff_not];omega
   unfold St.onlyB
   dsimp only
   rw [this];rfl
  rw [h1,h2];rfl
theorem qmy (s:St) (h:Int) (b1 b2 b4 b8 b512:Bool) (e1:(bitP h 1==0) = !b1) (e2:(bitP h 2==0) = !b2) (e4:(bitP h 4==0) = !b4) (e8:(bitP h 8==0) = !b8) (e512:(bitP h 512==0) = !b512) (hz:s.sz≤1048576):qaa Tryz.prog 151 [.r (St.at s),.a (.v (.int .i64 h))] (.a (.v (.bool (qin b1 b2 b4 b8 b512 s)))):=by
 have hse:=s.sz_eq
 have f1:(bitP h 1 != 0)=b1:=by unfold bne;rw [e1,Bool.not_not]
 have f2:(bitP h 2 != 0)=b2:=by unfold bne;rw [e2,Bool.not_not]
 have f4:(bitP h 4 != 0)=b4:=by unfold bne;rw [e4,Bool.not_not]
 have f8:(bitP h 8 != 0)=b8:=by unfold bne;rw [e8,Bool.not_not]
 have f512:(bitP h 512 != 0)=b512:=by unfold bne;rw [e512,Bool.not_not]
 refine qaa.go Tryz.func151 rfl Tryz.ntmps151 rfl rfl rfl (fun C hro=>?_)
 have fx:=trivial
 replace fx:=ai15 e1 (ai15 e2 (ai15 e4 (ai15 e8 (ai15 e512 (ai15 f1 (ai15 f2 (ai15 f4 (ai15 f8 (ai15 f512 trivial)))))))))
 repeat' (first|refine stp [0,1,2,4,5,21,22,27,33,34,51] ?_|(refine stc (r1:=by first|exact qdw s.x (by omega)|exact qdw s.y (by omega)|exact qdw s.name (by omega)) (r2:=?_);refine rnx ?_)|refine WP.cn (fun hc=>?_) (fun hc=>?_)|fail)
 all_goals
  refine qam ?_
  unfold qin
  clear e1 e2 e4 e8 e512 f1 f2 f4 f8 f512
  cases hny:qaw s.y<;>cases b1<;>cases b2<;>cases b4<;>cases b8<;>cases b512<;>simp_all
theorem hasP_bits (k:Int):((bitP (hasP k) 1==0) = !qbg (hasP k) 1)∧((bitP (hasP k) 2==0) = !qbg (hasP k) 2)∧((bitP (hasP k) 4==0) = !qbg (hasP k) 4)∧((bitP (hasP k) 8==0) = !qbg (hasP k) 8)∧((bitP (hasP k) 16==0) = !qbg (hasP k) 16)∧((bitP (hasP k) 32==0) = !qbg (hasP k) 32)∧((bitP (hasP k) 64==0) = !qbg (hasP k) 64)∧((bitP (hasP k) 128==0) = !qbg (hasP k) 128)∧((bitP (hasP k) 256==0) = !qbg (hasP k) 256)∧((bitP (hasP k) 512==0) = !qbg (hasP k) 512):=by
 have key:∀h∈([33,15,46,591,17,49,3,2,416,160,32,0]:List Int),((bitP h 1==0) = !qbg h 1)∧((bitP h 2==0) = !qbg h 2)∧((bitP h 4==0) = !qbg h 4)∧((bitP h 8==0) = !qbg h 8)∧((bitP h 16==0) = !qbg h 16)∧((bitP h 32==0) = !qbg h 32)∧((bitP h 64==0) = !qbg h 64)∧((bitP h 128==0) = !qbg h 128)∧((bitP h 256==0) = !qbg h 256)∧((bitP h 512==0) = !qbg h 512):=by decide
 refine key _ ?_
 unfold hasP
 repeat' (first|(simp;done)|split)
theorem gt0 {α:Type} (l:List α):decide ((l.length:Int)>0) = !((l.length:Int)==0):=by
 cases l<;>simp;omega
theorem qnp (p most:Int) (l:List St) (h0:0≤most):(l.all fun k=>St.formB p k&&decide ((k.deep:Int)≤most))=(St.formsB p l&&decide ((St.deeps l:Int)≤most)):=by
 induction l with
 | nil=>rw [List.all_nil,St.formsB,St.deeps,decide_eq_true (show ((0:Nat):Int)≤most by omega)];rfl
 | cons x r ih =>
  rw [List.all_cons,ih,St.formsB,St.deeps]
  have:decide (((max x.deep (St.deeps r):Nat):Int)≤most)=(decide ((x.deep:Int)≤most)&&decide ((St.deeps r:Int)≤most)):=by
   rw [Bool.eq_iff_iff,Bool.and_eq_true,decide_eq_true_iff,decide_eq_true_iff,decide_eq_true_iff];omega
  rw [this]
  cases St.formB p x<;>cases St.formsB p r<;>simp
theorem psR (p:Int):∀(m:Nat) (s:St) (most:Int),s.sz≤m→s.sz≤1048576→0≤most→most≤1048576→qaa Tryz.prog 96 [.r (St.at s),.a (.v (.int .i64 p)),.a (.v (.int .i64 most))] (.a (.v (.bool (St.formB p s&&decide ((s.deep:Int)≤most)))))
 | 0,s,_,h,_,_,_=>by have:=s.sz_pos;omega
 | m+1,s,most,h,hz,h0,h1=>by
  have hse:=s.sz_eq
  have hbl:s.body.length≤1048576:=by have:=St.szs_len s.body;omega
  have hel:s.els.length≤1048576:=by have:=St.szs_len s.els;omega
  obtain⟨e1,e2,e4,e8,e16,e32,e64,e128,e256,e512⟩:=hasP_bits s.kind
  have hw:IntKind.i64.wrap (most-1)=if most=0 then -1 else most-1:=by
   by_cases hm:most=0
   ·subst hm;rfl
   ·rw [if_neg hm];exact qbk (by omega) (by omega)
  by_cases hm:most=0
  ·have hmb:(most==0)=true:=beq_iff_eq.2 hm
   refine qaa.go Tryz.func96 rfl Tryz.ntmps96 rfl rfl rfl (fun C hro=>?_)
   have fx:=trivial
   replace fx:=ai15 hmb (ai15 @Bool.true_or (ai15 e128 (ai15 e256 trivial)))
   repeat' (first|refine stp [0,1,2,3,4,5,6,7,8,52] ?_|(refine stc (r1:=by first|exact psHas _|exact qmy s _ _ _ _ _ _ e1 e2 e4 e8 e512 hz|exact psTold s _ p _ _ _ e16 e32 e64 hz) (r2:=?_);refine rnx ?_)|fail)
   exact qam (by rw [decide_eq_false (show ¬(s.deep:Int)≤most by rw [St.deep_eq];omega),Bool.and_false])
  ·have hmb:(most==0)=false:=by simpa using hm
   have hwl:IntKind.i64.wrap (most-1)=most-1:=qbk (by omega) (by omega)
   have I0:∀k∈s.body++s.els,qaa Tryz.prog 96 [.r (St.at k),.a (.v (.int .i64 p)),.a (.v (.int .i64 (most-1)))] (.a (.v (.bool (St.formB p k&&decide ((k.deep:Int)≤most-1))))):=fun k hk=>by
    have:k.sz<s.sz:=(List.mem_append.1 hk).elim St.body_lt St.els_lt
    exact psR p m k _ (by omega) (by omega) (by omega) (by omega)
   have I1:∀k∈s.body++s.els,qaa Tryz.prog 153 [.r (St.at k),.a (.ref [.v (.int .i64 p)] 0),.a (.ref [.v (.int .i64 most)] 0)] (.a (.v (.bool (!(St.formB p k&&decide ((k.deep:Int)≤most-1)))))):=fun k hk=>by
    have:=I0 k hk
    refine qaa.go Tryz.func153 rfl Tryz.ntmps153 rfl rfl rfl (fun C hro=>?_)
    have fx:=trivial
    replace fx:=ai15 hwl trivial
    repeat' (first|refine stp [0,1,2,3,4] ?_|(refine stc (r1:=by exact this) (r2:=?_);refine rnx ?_)|fail)
    rfl
   refine qaa.go Tryz.func96 rfl Tryz.ntmps96 rfl rfl rfl (fun C hro=>?_)
   have fx:=trivial
   replace fx:=ai15 hmb (ai15 @Bool.false_or (ai15 e128 (ai15 e256 trivial)))
   repeat' (first|refine stp [0,1,2,3,4,5,6,7,8,52] ?_|(refine stc (r1:=by first|exact psHas _|exact qmy s _ _ _ _ _ _ e1 e2 e4 e8 e512 hz|exact psTold s _ p _ _ _ e16 e32 e64 hz|exact pCfStmt (fun k=>!(St.formB p k&&decide ((k.deep:Int)≤most-1))) s.body 153 [.ref [.v (.int .i64 p)] 0,.ref [.v (.int .i64 most)] 0] rfl hbl fun k hk=>I1 k (List.mem_append.2 (.inl hk))|exact pCfStmt (fun k=>!(St.formB p k&&decide ((k.deep:Int)≤most-1))) s.els 153 [.ref [.v (.int .i64 p)] 0,.ref [.v (.int .i64 most)] 0] rfl hel fun k hk=>I1 k (List.mem_append.2 (.inr hk))) (r2:=?_);refine rnx ?_)|refine WP.cn (fun hc=>?_) (fun hc=>?_)|fail)
   ·refine qam ?_
    have hn:qkv s p=false:=by
     revert hc
     unfold qkv qm8 toldP
     rw [gt0,gt0]
     unfold bne
     generalize (hasP s.kind==0)=g1
     generalize qin _ _ _ _ _ s=g2
     generalize qnx _ _ _ s p=g3
     generalize qbg (hasP s.kind) 128=g4
     generalize qbg (hasP s.kind) 256=g5
     generalize ((s.body.length:Int)==0)=g6
     generalize ((s.els.length:Int)==0)=g7
     revert g1 g2 g3 g4 g5 g6 g7
     decide
    rw [St.form_eq,←qm7,hn];rfl
   ·refine qam ?_
    have hn:qkv s p=true:=by
     revert hc
     unfold qkv qm8 toldP
     rw [gt0,gt0]
     unfold bne
     generalize (hasP s.kind==0)=g1
     generalize qin _ _ _ _ _ s=g2
     generalize qnx _ _ _ s p=g3
     generalize qbg (hasP s.kind) 128=g4
     generalize qbg (hasP s.kind) 256=g5
     generalize ((s.body.length:Int)==0)=g6
     generalize ((s.els.length:Int)==0)=g7
     revert g1 g2 g3 g4 g5 g6 g7
     decide
    rw [St.form_eq,←qm7,hn,qer,qer,qnp _ _ _ (by omega),qnp _ _ _ (by omega),St.deep_eq]
    have:decide (((max (St.deeps s.body) (St.deeps s.els)+1:Nat):Int)≤most)=(decide ((St.deeps s.body:Int)≤most-1)&&decide ((St.deeps s.els:Int)≤most-1)):=by
     rw [Bool.eq_iff_iff,Bool.and_eq_true,decide_eq_true_iff,decide_eq_true_iff,decide_eq_true_iff];omega
    rw [this]
    cases St.formsB p s.body<;>cases St.formsB p s.els<;>simp
theorem psRight (s:St) (p:Int) (hz:s.sz≤1048576):qaa Tryz.prog 51 [.r (St.at s),.a (.v (.int .i64 p))] (.a (.v (.bool (s.rightB p)))):=by
 refine qaa.go Tryz.func51 rfl Tryz.ntmps51 rfl rfl rfl (fun C hro=>?_)
 have fx:=trivial
 repeat' (first|refine stp [0,1,2,4] ?_|(refine stc (r1:=by exact psR p _ s 20 (Nat.le_refl _) hz (by decide) (by decide)) (r2:=?_);refine rnx ?_)|fail)
 refine qam ?_
 unfold St.rightB
 congr 1
 rw [Bool.eq_iff_iff,decide_eq_true_iff,decide_eq_true_iff];omega
def stmI (c:Cs) (s:St) (z:Int):Int:=if s.rightB (c.params.length:Int)=true then z else 28
theorem pgStmt (p:List Cs) (c:Cs) (m:Me) (s:St) (z:Int) (b:Ak) (hz:s.sz≤1048576) (h:DM Tryz.prog 52 [.a (.ptr 0 0)] [.cell (Ak.at ⟨p,c,m,s,Ty.zero,Ty.zero⟩)] (.a (.v (.int .i64 z))) [.cell (Ak.at b)]):qaa Tryz.prog 21 [.a (.sl (p.map Cs.at)),.r (Cs.at c),.r (Me.at m),.r (St.at s)] (.a (.v (.int .i64 (stmI c s z)))):=by
 unfold stmI
 refine qaa.go Tryz.func21 rfl Tryz.ntmps21 rfl rfl rfl (fun C hro=>?_)
 have fx:=trivial
 have haz:=Ak.z0
 replace fx:=ai15 haz trivial
 repeat' (first|refine stp [0,1,2,3,5,6,7,8,9,15] ?_|(refine stc (r1:=by exact psRight s _ hz) (r2:=?_);refine rnx ?_)|(refine RS.cM [3] (hp:=by exact h) (h:=?_);refine rnx ?_)|refine WP.cn (fun hc=>?_) (fun hc=>?_)|fail)
 ·exact qco (by rw [if_neg (by simpa using hc)])
 ·exact qco (by rw [if_pos (by simpa using hc)])
end Go.Proofs.YthkojpnjdpbcgaaGreatDoor
