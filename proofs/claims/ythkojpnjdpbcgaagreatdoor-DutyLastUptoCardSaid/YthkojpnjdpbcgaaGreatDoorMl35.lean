/- fit.asker's questions: variables, values, objects, on plain data. Conditions: at most 2^20 of anything. -/
import Derived.Test.YthkojpnjdpbcgaaGreatDoorMl32
set_option linter.unusedVariables false
set_option maxRecDepth 100000
set_option maxHeartbeats 8000000
set_option linter.unusedSimpArgs false
namespace Go.Proofs.YthkojpnjdpbcgaaGreatDoor
open Go.RowKit
structure Ak.ok (a:Ak):Prop where
 np:a.p.length≤1048576
 nc:a.c.params.length≤1048576
 na:a.m.params.length≤1048576
 nl:a.m.locals.length≤1048576
 nz:a.s.sz≤1048576
theorem St.e_sz (s:St):s.e.sz≤s.sz:=by
 obtain⟨k,x,y,nm,ty,e,ar,bo,el,at_⟩:=s
 rw [St.sz];dsimp only;omega
def vrE (a:Ak) (s:List UInt8):Int:=if qaz a.m s<0 then 13 else 0
def tgt (a:Ak):Int×Ak:=if qaz a.m a.s.x<0 then (13,a) else (0,{ a with x:=(qak a.c a.m a.s.x).1 })
theorem pgVarX (a:Ak) (s:List UInt8):DM Tryz.prog 106 [.a (.ptr 0 0),.a (.v (.string (bs s))),.a (.ptr 0 48)] [.cell (Ak.at a)] (.a (.fn 166 [.ptr 1 0,.ptr 2 0,.ptr 3 0])) [.cell (Ak.at a),.cell [.ptr 0 0],.cell [.v (.string (bs s))],.cell [.ptr 0 48]]:=by
 refine DM.intro Tryz.func106 rfl Tryz.ntmps106 rfl rfl rfl (by simp only [go_sem,simprocAttr]) (fun V0 Kb Nx=>?_)
 have fx:=trivial
 repeat' (first|refine stp [0,1,2,3,4,5,6] ?_|fail)
 exact qar ⟨rfl,[],rfl⟩
theorem pgVarT (a:Ak) (t:Ty) (s:List UInt8):DM Tryz.prog 106 [.a (.ptr 0 0),.a (.v (.string (bs s))),.a (.ptr 1 0)] [.cell (Ak.at a),.cell (Ty.at t)] (.a (.fn 166 [.ptr 2 0,.ptr 3 0,.ptr 4 0])) [.cell (Ak.at a),.cell (Ty.at t),.cell [.ptr 0 0],.cell [.v (.string (bs s))],.cell [.ptr 1 0]]:=by
 refine DM.intro Tryz.func106 rfl Tryz.ntmps106 rfl rfl rfl (by simp only [go_sem,simprocAttr]) (fun V0 Kb Nx=>?_)
 have fx:=trivial
 repeat' (first|refine stp [0,1,2,3,4,5,6] ?_|fail)
 exact qar ⟨rfl,[],rfl⟩
theorem pgVarX1 (a:Ak) (s:List UInt8) (h:a.ok):DM Tryz.prog 166 [.a (.ptr 1 0),.a (.ptr 2 0),.a (.ptr 3 0)] [.cell (Ak.at a),.cell [.ptr 0 0],.cell [.v (.string (bs s))],.cell [.ptr 0 48]] (.a (.v (.int .i64 (vrE a s)))) [.cell (Ak.at (if qaz a.m s<0 then a else { a with x:=(qak a.c a.m s).1 })),.cell [.ptr 0 0],.cell [.v (.string (bs s))],.cell [.ptr 0 48]]:=by
 by_cases hp:qaz a.m s<0
 ·have hd:=decide_eq_true hp
  unfold vrE;rw [if_pos hp,if_pos hp]
  refine DM.intro Tryz.func166 rfl Tryz.ntmps166 rfl rfl rfl (by simp only [go_sem,simprocAttr]) (fun V0 Kb Nx=>?_)
  have fx:=trivial
  replace fx:=ai15 hd trivial
  repeat' (first|refine stp [0,1,2,3,10] ?_|(refine stc (r1:=by exact qil a.m s h.na h.nl) (r2:=?_);refine rnx ?_)|((refine WP.dw (id:=1) 7 [0,1,2,3,10] ?_);simp only [qbh,List.drop_succ_cons,List.drop_zero,List.drop_nil])|fail)
  exact qar ⟨rfl,_,rfl⟩
 ·have hd:=decide_eq_false hp
  unfold vrE;rw [if_neg hp,if_neg hp]
  refine DM.intro Tryz.func166 rfl Tryz.ntmps166 rfl rfl rfl (by simp only [go_sem,simprocAttr]) (fun V0 Kb Nx=>?_)
  have fx:=trivial
  replace fx:=ai15 hd trivial
  repeat' (first|(refine RWL.fin ?_;try simp only [qab,qac])|refine stp [0,1,2,3,10] ?_|refine RWL.fr ?_|refine RWL.wt ?_|(refine stc (r1:=by first|exact qil a.m s h.na h.nl|exact pType a.c a.m s h.nc h.na h.nl) (r2:=?_);refine rnx ?_)|(refine' WP.dl (id:=3) [0,0,2,6,14,0,32,96,224,0,1022,2046,4094,4094,8191,24575] [0,1,2,3,10] [15] [(15,_)] ?_)|refine RWL.re ?_ ?_|refine RdO.oz|((refine WP.dw (id:=1) 7 [0,1,2,3,10] ?_);simp only [qbh,List.drop_succ_cons,List.drop_zero,List.drop_nil])|fail)
  exact qar ⟨rfl,_,rfl⟩
theorem pgVarT1 (a:Ak) (t:Ty) (s:List UInt8) (h:a.ok):DM Tryz.prog 166 [.a (.ptr 2 0),.a (.ptr 3 0),.a (.ptr 4 0)] [.cell (Ak.at a),.cell (Ty.at t),.cell [.ptr 0 0],.cell [.v (.string (bs s))],.cell [.ptr 1 0]] (.a (.v (.int .i64 (vrE a s)))) [.cell (Ak.at a),.cell (Ty.at (if qaz a.m s<0 then t else (qak a.c a.m s).1)),.cell [.ptr 0 0],.cell [.v (.string (bs s))],.cell [.ptr 1 0]]:=by
 by_cases hp:qaz a.m s<0
 ·have hd:=decide_eq_true hp
  unfold vrE;rw [if_pos hp,if_pos hp]
  refine DM.intro Tryz.func166 rfl Tryz.ntmps166 rfl rfl rfl (by simp only [go_sem,simprocAttr]) (fun V0 Kb Nx=>?_)
  have fx:=trivial
  replace fx:=ai15 hd trivial
  repeat' (first|refine stp [0,1,2,3,10] ?_|(refine stc (r1:=by exact qil a.m s h.na h.nl) (r2:=?_);refine rnx ?_)|((refine WP.dw (id:=1) 7 [0,1,2,3,10] ?_);simp only [qbh,List.drop_succ_cons,List.drop_zero,List.drop_nil])|fail)
  exact qar ⟨rfl,_,rfl⟩
 ·have hd:=decide_eq_false hp
  unfold vrE;rw [if_neg hp,if_neg hp]
  refine DM.intro Tryz.func166 rfl Tryz.ntmps166 rfl rfl rfl (by simp only [go_sem,simprocAttr]) (fun V0 Kb Nx=>?_)
  have fx:=trivial
  replace fx:=ai15 hd trivial
  repeat' (first|(refine RWL.fin ?_;try simp only [qab,qac])|refine stp [0,1,2,3,10] ?_|refine RWL.fr ?_|refine RWL.wt ?_|(refine stc (r1:=by first|exact qil a.m s h.na h.nl|exact pType a.c a.m s h.nc h.na h.nl) (r2:=?_);refine rnx ?_)|(refine' WP.dl (id:=3) [0,0,2,6,14,0,32,96,224,0,1022,2046,4094,4094,8191,24575] [0,1,2,3,10] [15] [(15,_)] ?_)|refine RWL.re ?_ ?_|refine RdO.oz|((refine WP.dw (id:=1) 7 [0,1,2,3,10] ?_);simp only [qbh,List.drop_succ_cons,List.drop_zero,List.drop_nil])|fail)
  exact qar ⟨rfl,_,rfl⟩
theorem qeb (a:Ak) (h:a.ok):DM Tryz.prog 98 [.a (.ptr 0 0)] [.cell (Ak.at a)] (.a (.v (.int .i64 (tgt a).1))) [.cell (Ak.at (tgt a).2)]:=by
 have h1:=pgVarX a a.s.x
 have h2:=pgVarX1 a a.s.x h
 have e1:(tgt a).1=vrE a a.s.x:=by unfold tgt vrE;split<;>rfl
 have e2:(tgt a).2=if qaz a.m a.s.x<0 then a else { a with x:=(qak a.c a.m a.s.x).1 }:=by unfold tgt;split<;>rfl
 rw [e1,e2]
 generalize vrE a a.s.x=z at h2 ⊢
 generalize (if qaz a.m a.s.x<0 then a else { a with x:=(qak a.c a.m a.s.x).1 })=b at h2 ⊢
 refine DM.intro Tryz.func98 rfl Tryz.ntmps98 rfl rfl rfl (by simp only [go_sem,simprocAttr]) (fun V0 Kb Nx=>?_)
 have fx:=trivial
 repeat' (first|refine stp [0,2] ?_|(refine RS.cM [0] (hp:=by exact h1) (h:=?_);refine rnx ?_)|(refine RS.cvM [0,1,2,3] (hp:=by exact h2) (h:=?_);refine rnx ?_)|((refine WP.dw (id:=1) 9 [0,2] ?_);simp only [qbh,List.drop_succ_cons,List.drop_zero,List.drop_nil])|fail)
 exact qar ⟨rfl,_,rfl⟩
theorem qg1 (a:Ak) (t:Ty):DM Tryz.prog 99 [.a (.ptr 0 0),.a (.ptr 1 0)] [.cell (Ak.at a),.cell (Ty.at t)] (.a (.fn 155 [.ptr 2 0,.ptr 3 0])) [.cell (Ak.at a),.cell (Ty.at t),.cell [.ptr 0 0],.cell [.ptr 1 0]]:=by
 refine DM.intro Tryz.func99 rfl Tryz.ntmps99 rfl rfl rfl (by simp only [go_sem,simprocAttr]) (fun V0 Kb Nx=>?_)
 have fx:=trivial
 repeat' (first|refine stp [0,1,2,3,4] ?_|fail)
 exact qar ⟨rfl,[],rfl⟩
theorem qgf (a:Ak) (t:Ty) (h:a.ok):DM Tryz.prog 155 [.a (.ptr 2 0),.a (.ptr 3 0)] [.cell (Ak.at a),.cell (Ty.at t),.cell [.ptr 0 0],.cell [.ptr 1 0]] (.a (.v (.int .i64 (oneT a.c a.m a.s.e).2))) [.cell (Ak.at a),.cell (Ty.at (oneT a.c a.m a.s.e).1),.cell [.ptr 0 0],.cell [.ptr 1 0]]:=by
 have h1:=pShOf a.c a.m a.s.e h.nc h.na h.nl (Nat.le_trans a.s.e_sz h.nz)
 generalize oneT a.c a.m a.s.e=R at h1 ⊢
 refine DM.intro Tryz.func155 rfl Tryz.ntmps155 rfl rfl rfl (by simp only [go_sem,simprocAttr]) (fun V0 Kb Nx=>?_)
 have fx:=trivial
 repeat' (first|(refine RWL.fin ?_;try simp only [qab,qac])|refine stp [0,1,2] ?_|refine RWL.fr ?_|refine RWL.wt ?_|(refine stc (r1:=by exact h1) (r2:=?_);refine rnx ?_)|(refine' WP.dl (id:=1) [0,0,2,6,14,0,32,96,224,0,512,1536,3584,7680,16382,32766,65534,65534,131071,393215,1048575] [0,1,2] [19] [(19,_)] ?_)|refine RWL.re ?_ ?_|refine RdO.oz|fail)
 exact qar ⟨rfl,_,rfl⟩
theorem pgFitsX (a:Ak) (t:Ty):DM Tryz.prog 100 [.a (.ptr 0 0),.a (.ptr 1 0),.a (.ptr 0 48)] [.cell (Ak.at a),.cell (Ty.at t)] (.a (.fn 156 [.ptr 2 0,.ptr 3 0,.ptr 4 0])) [.cell (Ak.at a),.cell (Ty.at t),.cell [.ptr 0 0],.cell [.ptr 1 0],.cell [.ptr 0 48]]:=by
 refine DM.intro Tryz.func100 rfl Tryz.ntmps100 rfl rfl rfl (by simp only [go_sem,simprocAttr]) (fun V0 Kb Nx=>?_)
 have fx:=trivial
 repeat' (first|refine stp [0,1,2,3,4,5,6] ?_|fail)
 exact qar ⟨rfl,[],rfl⟩
theorem qm2 (a:Ak) (t:Ty) (h:a.ok):DM Tryz.prog 156 [.a (.ptr 2 0),.a (.ptr 3 0),.a (.ptr 4 0)] [.cell (Ak.at a),.cell (Ty.at t),.cell [.ptr 0 0],.cell [.ptr 1 0],.cell [.ptr 0 48]] (.a (.v (.int .i64 (qc2 a.p t a.x)))) [.cell (Ak.at a),.cell (Ty.at t),.cell [.ptr 0 0],.cell [.ptr 1 0],.cell [.ptr 0 48]]:=by
 refine DM.intro Tryz.func156 rfl Tryz.ntmps156 rfl rfl rfl (by simp only [go_sem,simprocAttr]) (fun V0 Kb Nx=>?_)
 have fx:=trivial
 repeat' (first|refine stp [0,1,2,3] ?_|(refine stc (r1:=by exact pFits a.p t a.x h.np) (r2:=?_);refine rnx ?_)|((refine WP.dw (id:=1) 12 [0,1,2,3] ?_);simp only [qbh,List.drop_succ_cons,List.drop_zero,List.drop_nil])|fail)
 exact qar ⟨rfl,_,rfl⟩
end Go.Proofs.YthkojpnjdpbcgaaGreatDoor
namespace Go.Proofs.YthkojpnjdpbcgaaGreatDoor
open Go.RowKit
theorem Ak.ok_tgt {a:Ak} (h:a.ok):(tgt a).2.ok:=by
 unfold tgt;split
 ·exact h
 ·exact⟨h.np,h.nc,h.na,h.nl,h.nz⟩
def setI (a:Ak):Int×Ak×Ty :=
 if ((tgt a).1 != 0)=true then ((tgt a).1,(tgt a).2,Ty.zero) else
 if ((oneT a.c a.m a.s.e).2 != 0)=true then ((oneT a.c a.m a.s.e).2,(tgt a).2,(oneT a.c a.m a.s.e).1) else
 (qc2 a.p (oneT a.c a.m a.s.e).1 (tgt a).2.x,(tgt a).2,(oneT a.c a.m a.s.e).1)
theorem qi3 (a:Ak):(tgt a).2.p=a.p∧(tgt a).2.c=a.c∧(tgt a).2.m=a.m∧(tgt a).2.s=a.s∧(tgt a).2.o=a.o:=by
 unfold tgt;split<;>exact⟨rfl,rfl,rfl,rfl,rfl⟩
theorem allSet (a:Ak) (h:a.ok):DM Tryz.prog 97 [.a (.cs 9 0 3)] [.cell (Ak.at a),.cell [.ptr 0 0],.cell (Ty.at Ty.zero),.cell (Ty.at Ty.zero),.cell [.ptr 0 0],.cell [.ptr 2 0],.cell [.ptr 0 0],.cell [.ptr 2 0],.cell [.ptr 0 48],.cell [.fm 98 [.ptr 0 0],.fn 155 [.ptr 4 0,.ptr 5 0],.fn 156 [.ptr 6 0,.ptr 7 0,.ptr 8 0]]] (.a (.v (.int .i64 (setI a).1)))
  [.cell (Ak.at (setI a).2.1),.cell [.ptr 0 0],.cell (Ty.at (setI a).2.2),.cell (Ty.at Ty.zero),.cell [.ptr 0 0],.cell [.ptr 2 0],.cell [.ptr 0 0],.cell [.ptr 2 0],.cell [.ptr 0 48],.cell [.fm 98 [.ptr 0 0],.fn 155 [.ptr 4 0,.ptr 5 0],.fn 156 [.ptr 6 0,.ptr 7 0,.ptr 8 0]]]:=by
 have ht:=qeb a h
 obtain⟨k1,k2,k3,k4,k5⟩:=qi3 a
 have hv:=qgf (tgt a).2 Ty.zero (Ak.ok_tgt h)
 have hf:=qm2 (tgt a).2 (oneT a.c a.m a.s.e).1 (Ak.ok_tgt h)
 rw [k2,k3,k4] at hv
 rw [k1] at hf
 refine pAll 9 [.fm 98 [.ptr 0 0],.fn 155 [.ptr 4 0,.ptr 5 0],.fn 156 [.ptr 6 0,.ptr 7 0,.ptr 8 0]] _ _ _ (by decide) rfl rfl (by simp only [go_sem,simprocAttr]) ?_
 unfold setI
 generalize (tgt a).1=e1 at ht ⊢
 generalize (tgt a).2=b at ht hv hf ⊢
 generalize oneT a.c a.m a.s.e=R at hv hf ⊢
 cases h1:e1 != 0 with
 | true =>
  rw [if_pos rfl]
  exact .stop _ _ _ _ _ _ _ rfl (DM.lift [0] ht) h1
 | false =>
  have h1:e1=0:=by simpa using h1
  subst h1
  rw [if_neg Bool.false_ne_true]
  refine .go _ _ _ _ _ _ _ _ rfl (DM.lift [0] ht) rfl rfl ?_
  obtain⟨t,z⟩:=R
  dsimp only at hv hf ⊢
  cases h2:z != 0 with
  | true =>
   rw [if_pos rfl]
   exact .stop _ _ _ _ _ _ _ rfl (DM.lift [0,2,4,5] hv) h2
  | false =>
   have h2:z=0:=by simpa using h2
   subst h2
   rw [if_neg Bool.false_ne_true]
   refine .go _ _ _ _ _ _ _ _ rfl (DM.lift [0,2,4,5] hv) rfl rfl ?_
   generalize qc2 a.p t b.x=y at hf ⊢
   cases h3:y != 0 with
   | true=>exact .stop _ _ _ _ _ _ _ rfl (DM.lift [0,2,6,7,8] hf) h3
   | false =>
    have h3:y=0:=by simpa using h3
    subst h3
    exact .go _ _ _ _ _ _ _ _ rfl (DM.lift [0,2,6,7,8] hf) rfl rfl (.nil _)
theorem pAskSet (a:Ak) (h:a.ok) (hk:a.s.kind=1):DM Tryz.prog 52 [.a (.ptr 0 0)] [.cell (Ak.at a)] (.a (.v (.int .i64 (setI a).1))) [.cell (Ak.at (setI a).2.1)]:=by
 have hA:=allSet a h
 generalize setI a=R at hA ⊢
 refine DM.intro Tryz.func52 rfl Tryz.ntmps52 rfl rfl rfl (by simp only [go_sem,simprocAttr]) (fun V0 Kb Nx=>?_)
 have fx:=trivial
 replace fx:=ai15 hk (ai15 tyZ trivial)
 repeat' (first|(refine RWL.fin ?_;try simp only [qab,qac])|refine stp [0,1,2,3,4,9,10,23,38,50,57,72,80,88,102,115] ?_|refine RWL.fr ?_|refine RWL.mb ?_|refine RWL.bC ?_|(refine' WP.dl (id:=4) [0,1,0,4,0,0,32,96,252,511,1023,2047] [0,1,2,3,4,9,10,23,38,50,57,72,80,88,102,115] [3,8,9,10] [(3,_),(8,_),(9,_),(10,_)] ?_)|(refine RWL.cM [0,2] (hp:=by exact qg1 a Ty.zero) (h:=?_))|(refine RWL.cM [0,2] (hp:=by exact pgFitsX a Ty.zero) (h:=?_))|(refine RWL.cM [0,1,2,3,4,5,6,7,8,9] (hp:=by exact hA) (h:=?_))|refine RWL.re ?_ ?_|refine RdO.oz|refine RdO.oe ?_|fail)
 exact qar ⟨rfl,_,rfl⟩
end Go.Proofs.YthkojpnjdpbcgaaGreatDoor
namespace Go.Proofs.YthkojpnjdpbcgaaGreatDoor
open Go.RowKit
def qgr (p:List Cs) (c:Cs) (m:Me) (e:Ex) (u:Ty):Int :=
 if ((oneT c m e).2 != 0)=true then (oneT c m e).2 else if ((oneT c m e).1.kind==2&&qan u)=true then qfe p (oneT c m e).1 u else qc2 p (oneT c m e).1 u
theorem pgSuits (p:List Cs) (c:Cs) (m:Me) (e:Ex) (u:Ty) (hp:p.length≤1048576) (hc:c.params.length≤1048576) (ha:m.params.length≤1048576) (hb:m.locals.length≤1048576) (hz:e.sz≤1048576):qaa Tryz.prog 160 [.a (.sl (p.map Cs.at)),.r (Cs.at c),.r (Me.at m),.r (Ex.at e),.r (Ty.at u)] (.a (.v (.int .i64 (qgr p c m e u)))):=by
 have h1:=pShOf c m e hc ha hb hz
 unfold qgr
 generalize oneT c m e=R at h1 ⊢
 refine qaa.go Tryz.func160 rfl Tryz.ntmps160 rfl rfl rfl (fun C hro=>?_)
 have fx:=trivial
 replace fx:=ai15 tyZ trivial
 repeat' (first|refine stp [0,1,2,3,4,6,7,8,9,10,11,12,20,24] ?_|(refine stc (r1:=by first|exact h1|exact qbd u|exact pGives p R.1 u hp|exact pFits p R.1 u hp) (r2:=?_);refine rnx ?_)|refine WP.cn (fun hc=>?_) (fun hc=>?_)|fail)
 all_goals (refine qco ?_;simp_all)
def retI (a:Ak):Int:=if ((a.s.e.kind==0) != (a.m.ret.kind==0))=true then 14 else if (a.s.e.kind==0)=true then 0 else qgr a.p a.c a.m a.s.e a.m.ret
theorem pgReturns (a:Ak) (h:a.ok):DM Tryz.prog 112 [.a (.ptr 0 0)] [.cell (Ak.at a)] (.a (.v (.int .i64 (retI a)))) [.cell (Ak.at a)]:=by
 unfold retI
 refine DM.intro Tryz.func112 rfl Tryz.ntmps112 rfl rfl rfl (by simp only [go_sem,simprocAttr]) (fun V0 Kb Nx=>?_)
 have fx:=trivial
 repeat' (first|refine stp [0,2,3,19,20] ?_|(refine stc (r1:=by exact pgSuits a.p a.c a.m a.s.e a.m.ret h.np h.nc h.na h.nl (Nat.le_trans a.s.e_sz h.nz)) (r2:=?_);refine rnx ?_)|refine WP.cn (fun hc=>?_) (fun hc=>?_)|((refine WP.dw (id:=6) 24 [0,2,3,19,20] ?_);simp only [qbh,List.drop_succ_cons,List.drop_zero,List.drop_nil])|fail)
 all_goals (refine qar ⟨congrArg (fun z:Int=>D.a (.v (.int .i64 z))) ?_,[],rfl⟩;cases h1:(a.s.e.kind==0)<;>cases h2:(a.m.ret.kind==0)<;>simp_all)
theorem pAskRet (a:Ak) (h:a.ok) (hk:a.s.kind=11):DM Tryz.prog 52 [.a (.ptr 0 0)] [.cell (Ak.at a)] (.a (.v (.int .i64 (retI a)))) [.cell (Ak.at a)]:=by
 have hA:=pgReturns a h
 refine DM.intro Tryz.func52 rfl Tryz.ntmps52 rfl rfl rfl (by simp only [go_sem,simprocAttr]) (fun V0 Kb Nx=>?_)
 have fx:=trivial
 replace fx:=ai15 hk (ai15 tyZ trivial)
 repeat' (first|refine stp [0,1,2,3,4,9,10,23,38,50,57,72,80,88,102,115] ?_|(refine RS.cM [0] (hp:=by exact hA) (h:=?_);refine rnx ?_)|fail)
 exact qar ⟨rfl,_,rfl⟩
theorem pgAsk2 (t:Ty):DM Tryz.prog 109 [.a (.ptr 0 0)] [.cell (Ty.at t)] (.a (.v (.int .i64 (bif t.kind==2 then 0 else 14)))) [.cell (Ty.at t)]:=by
 refine DM.intro Tryz.func109 rfl Tryz.ntmps109 rfl rfl rfl (by simp only [go_sem,simprocAttr]) (fun V0 Kb Nx=>?_)
 have fx:=trivial
 repeat' (first|refine stp [0,1] ?_|(refine stc (r1:=by exact qf6 _ _) (r2:=?_);refine rnx ?_)|fail)
 exact qar ⟨rfl,_,rfl⟩
theorem pgAsk3 (t:Ty):DM Tryz.prog 111 [.a (.ptr 0 0)] [.cell (Ty.at t)] (.a (.v (.int .i64 (bif qan t then 0 else 22)))) [.cell (Ty.at t)]:=by
 refine DM.intro Tryz.func111 rfl Tryz.ntmps111 rfl rfl rfl (by simp only [go_sem,simprocAttr]) (fun V0 Kb Nx=>?_)
 have fx:=trivial
 repeat' (first|refine stp [0,1] ?_|(refine stc (r1:=by first|exact qbd t|exact qf6 _ _) (r2:=?_);refine rnx ?_)|fail)
 exact qar ⟨rfl,_,rfl⟩
theorem pgAsk4 (t:Ty):DM Tryz.prog 113 [.a (.ptr 0 0)] [.cell (Ty.at t)] (.a (.v (.int .i64 (bif t.kind==1 then 0 else 14)))) [.cell (Ty.at t)]:=by
 refine DM.intro Tryz.func113 rfl Tryz.ntmps113 rfl rfl rfl (by simp only [go_sem,simprocAttr]) (fun V0 Kb Nx=>?_)
 have fx:=trivial
 repeat' (first|refine stp [0,1] ?_|(refine stc (r1:=by exact qf6 _ _) (r2:=?_);refine rnx ?_)|fail)
 exact qar ⟨rfl,_,rfl⟩
def vrT (a:Ak) (s:List UInt8):Ty:=if qaz a.m s<0 then Ty.zero else (qak a.c a.m s).1
def delI (a:Ak):Int×Ty:=if (vrE a a.s.y != 0)=true then (vrE a a.s.y,vrT a a.s.y) else if ((vrT a a.s.y).kind != 2)=true then (14,vrT a a.s.y) else if (!qan (vrT a a.s.y))=true then (22,vrT a a.s.y) else (0,vrT a a.s.y)
theorem AllR.one {P:Program} {j:Nat} {row r:List A} {st st1:List Bx} {x:A} {f:FuncId} {caps:List A} {z:Int} {res:Int} {st2:List Bx} (hf:fnOf x=some (f,caps)) (hd:DM P f (caps.map D.a) st (.a (.v (.int .i64 z))) st1) (hs:(z != 0)=true→res=z∧st2=st1) (hg:(z != 0)=false→AllR P j row r st1 res st2) (hj:st1[j]? = some (.cell row):=by rfl) (hl:st1.all Bx.live=true:=by rfl):AllR P j row (x::r) st res st2:=by
 cases h:z != 0 with
 | true=>obtain⟨h1,h2⟩:=hs h;subst h1;subst h2;exact .stop _ _ _ _ _ _ _ hf hd h
 | false =>
  have hz:z=0:=by simpa using h
  subst hz
  exact .go _ _ _ _ _ _ _ _ hf hd hj hl (hg h)
theorem allDel (a:Ak) (h:a.ok):DM Tryz.prog 97 [.a (.cs 7 0 3)] [.cell (Ak.at a),.cell [.ptr 0 0],.cell (Ty.at Ty.zero),.cell (Ty.at Ty.zero),.cell [.ptr 0 0],.cell [.v (.string (bs a.s.y))],.cell [.ptr 2 0],.cell [.fn 166 [.ptr 4 0,.ptr 5 0,.ptr 6 0],.fn 109 [.ptr 2 0],.fn 111 [.ptr 2 0]]] (.a (.v (.int .i64 (delI a).1)))
  [.cell (Ak.at a),.cell [.ptr 0 0],.cell (Ty.at (delI a).2),.cell (Ty.at Ty.zero),.cell [.ptr 0 0],.cell [.v (.string (bs a.s.y))],.cell [.ptr 2 0],.cell [.fn 166 [.ptr 4 0,.ptr 5 0,.ptr 6 0],.fn 109 [.ptr 2 0],.fn 111 [.ptr 2 0]]]:=by
 have ht:=pgVarT1 a Ty.zero a.s.y h
 have hb:(if qaz a.m a.s.y<0 then Ty.zero else (qak a.c a.m a.s.y).1)=vrT a a.s.y:=rfl
 rw [hb] at ht
 have h2:=pgAsk2 (vrT a a.s.y)
 have h3:=pgAsk3 (vrT a a.s.y)
 refine pAll 7 [.fn 166 [.ptr 4 0,.ptr 5 0,.ptr 6 0],.fn 109 [.ptr 2 0],.fn 111 [.ptr 2 0]] _ _ _ (by decide) rfl rfl (by simp only [go_sem,simprocAttr]) ?_
 unfold delI
 generalize vrE a a.s.y=e1 at ht ⊢
 generalize vrT a a.s.y=t at ht h2 h3 ⊢
 refine .one rfl (DM.lift [0,2,4,5,6] ht) (fun h1=>?_) fun h1=>?_
 ·rw [if_pos h1];exact⟨rfl,rfl⟩
 rw [if_neg (by rw [h1];exact Bool.false_ne_true)]
 refine .one rfl (DM.lift [2] h2) (fun h1=>?_) fun h1=>?_
 ·cases hk:t.kind==2 with
  | true=>rw [hk] at h1;cases h1
  | false=>rw [if_pos (by simpa using hk)];exact⟨rfl,rfl⟩
 have hk:(t.kind==2)=true:=by cases hk:t.kind==2<;>rw [hk] at h1<;>first|rfl|cases h1
 rw [if_neg (by simpa using hk)]
 refine .one rfl (DM.lift [2] h3) (fun h1=>?_) fun h1=>?_
 ·cases hk:qan t with
  | true=>rw [hk] at h1;cases h1
  | false=>rw [if_pos (by simp)];exact⟨rfl,rfl⟩
 have hk:qan t=true:=by cases hk:qan t<;>rw [hk] at h1<;>first|rfl|cases h1
 rw [if_neg (by rw [hk];exact Bool.false_ne_true)]
 exact .nil _
theorem pAskDel (a:Ak) (h:a.ok) (hk:a.s.kind=8):DM Tryz.prog 52 [.a (.ptr 0 0)] [.cell (Ak.at a)] (.a (.v (.int .i64 (delI a).1))) [.cell (Ak.at a)]:=by
 have hA:=allDel a h
 generalize delI a=R at hA ⊢
 refine DM.intro Tryz.func52 rfl Tryz.ntmps52 rfl rfl rfl (by simp only [go_sem,simprocAttr]) (fun V0 Kb Nx=>?_)
 have fx:=trivial
 replace fx:=ai15 hk (ai15 tyZ trivial)
 repeat' (first|(refine RWL.fin ?_;try simp only [qab,qac])|refine stp [0,1,2,3,4,9,10,23,38,50,57,72,80,88,102,115] ?_|refine RWL.fr ?_|refine RWL.bC ?_|(refine' WP.dl (id:=20) [0,0,2,6,14,30,63,0,0,511,1023,2047] [0,1,2,3,4,9,10,23,38,50,57,72,80,88,102,115] [6,9,10] [(6,_),(9,_),(10,_)] ?_)|(refine RWL.cM [0,2] (hp:=by exact pgVarT a Ty.zero a.s.y) (h:=?_))|(refine RWL.cM [0,1,2,3,4,5,6,7] (hp:=by exact hA) (h:=?_))|refine RWL.re ?_ ?_|refine RdO.oz|fail)
 exact qar ⟨rfl,_,rfl⟩
end Go.Proofs.YthkojpnjdpbcgaaGreatDoor
