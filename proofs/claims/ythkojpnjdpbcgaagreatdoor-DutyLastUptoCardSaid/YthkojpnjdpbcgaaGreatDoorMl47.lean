/- What the program asks is what the document asks (FitStmt), without a program in sight. Conditions: none. -/
import Derived.Test.YthkojpnjdpbcgaaGreatDoorMl45
set_option linter.unusedVariables false
set_option maxRecDepth 100000
set_option maxHeartbeats 8000000
set_option linter.unusedSimpArgs false
namespace Go.Proofs.YthkojpnjdpbcgaaGreatDoor
open Go.RowKit
theorem qd3 {s:List UInt8} (h:qaw s=true):(s==qc6)=false:=by
 cases h1:s==qc6 with
 | false=>rfl
 | true =>
  have:s=qc6:=by simpa using h1
  subst this
  exact absurd h (by decide)
theorem qka {c:Cs} {m:Me} {s:List UInt8} (h:(s==qc6)=false) (hp:¬qaz m s<0):(qak c m s).1=(varT m s).1:=by
 unfold qak varT
 rw [if_neg (by rw [h];exact Bool.false_ne_true),if_neg hp,if_neg hp]
theorem qfk (a:Ak) (h:(a.s.x==qc6)=false):(tgt a).1=(varT a.m a.s.x).2∧((tgt a).1=0→(tgt a).2={ a with x:=(varT a.m a.s.x).1 }):=by
 by_cases hp:qaz a.m a.s.x<0
 ·have e1:tgt a=(13,a):=by unfold tgt;rw [if_pos hp]
  have e2:varT a.m a.s.x=(Ty.zero,13):=by unfold varT;rw [if_pos hp]
  rw [e1,e2];exact⟨rfl,fun h=>by cases h⟩
 ·have e1:tgt a=(0,{ a with x:=(qak a.c a.m a.s.x).1 }):=by unfold tgt;rw [if_neg hp]
  have e2:(varT a.m a.s.x).2=0:=by unfold varT;rw [if_neg hp]
  rw [e1,e2,←qka h hp];exact⟨rfl,fun _=>rfl⟩
theorem vr_var (a:Ak) {s:List UInt8} (h:(s==qc6)=false):vrE a s=(varT a.m s).2∧(vrE a s=0→vrT a s=(varT a.m s).1):=by
 by_cases hp:qaz a.m s<0
 ·have e2:varT a.m s=(Ty.zero,13):=by unfold varT;rw [if_pos hp]
  have e1:vrE a s=13:=by unfold vrE;rw [if_pos hp]
  rw [e1,e2];exact⟨rfl,fun h=>by cases h⟩
 ·have e1:vrE a s=0:=by unfold vrE;rw [if_neg hp]
  have e2:(varT a.m s).2=0:=by unfold varT;rw [if_neg hp]
  have e3:vrT a s=(qak a.c a.m s).1:=by unfold vrT;rw [if_neg hp]
  rw [e1,e2,e3,qka h hp];exact⟨rfl,fun _=>rfl⟩
theorem qm6 (a:Ak):(obI a).1=(objT a.c a.m a.s).2∧((obI a).1=0→(obI a).2={ a with o:=(objT a.c a.m a.s).1 }):=by
 unfold obI objT
 generalize qak a.c a.m a.s.y=R
 cases h4:(a.s.kind==4)<;>cases h1:R.2<;>cases h2:(R.1.kind==2)<;>cases h3:qan R.1<;>simp_all
theorem back_eq (a:Ak) (r:Ty):backP a r=if (a.s.x==[])=true then 0 else backI a.p r a.x:=by
 unfold backP backI
 cases h1:(a.s.x==[])<;>cases h2:(r.kind==0)<;>cases h3:qan r<;>cases h4:qan a.x<;>simp_all
theorem call_eq (a:Ak) (hk:a.s.kind=4) (ho:(objT a.c a.m a.s).2=0) (h1:(objT a.c a.m a.s).1=a.o):qh2 a=qlb a.p a.c a.m a.s a.x:=by
 have hm:calM a.p a.c a.m a.s=qd6 a.p a.o.cls a.s.name:=by unfold calM;rw [ho,hk,h1];rfl
 unfold qh2 qlb
 rw [hm,ho,if_neg (by decide)]
 cases qd6 a.p a.o.cls a.s.name with
 | none=>rfl
 | some f=>dsimp only;rw [back_eq]
theorem new_doc (a:Ak) (hk:a.s.kind=5) (hx:(a.s.x==qc6)=false):(if ((tgt a).1 != 0)=true then (tgt a).1 else qn3 (tgt a).2)=if ((varT a.m a.s.x).2 != 0)=true then (varT a.m a.s.x).2 else docK a.p a.c a.m a.s (varT a.m a.s.x).1:=by
 obtain⟨e1,e2⟩:=qfk a hx
 by_cases h:(tgt a).1=0
 ·rw [e2 h,←e1,h,if_neg (by decide),if_neg (by decide)]
  unfold docK qn3 madeI
  dsimp only
  rw [hk]
  simp [bne]
 ·rw [e1] at h ⊢
  rw [if_pos (by simpa using h),if_pos (by simpa using h)]
theorem cast_doc (a:Ak) (hk:a.s.kind=6) (hx:(a.s.x==qc6)=false):(if ((tgt a).1 != 0)=true then (tgt a).1 else (qj0 (tgt a).2).1)=if ((varT a.m a.s.x).2 != 0)=true then (varT a.m a.s.x).2 else docK a.p a.c a.m a.s (varT a.m a.s.x).1:=by
 obtain⟨e1,e2⟩:=qfk a hx
 by_cases h:(tgt a).1=0
 ·rw [e2 h,←e1,h,if_neg (by decide),if_neg (by decide)]
  unfold docK qj0 madeI
  dsimp only
  rw [hk]
  generalize oneT a.c a.m a.s.e=R
  cases h1:qan a.s.ty<;>cases h2:(R.2 != 0)<;>cases h3:(R.1.kind==2)<;>cases h4:(R.1.kind==3)<;>cases h5:qan R.1<;>simp_all
 ·rw [e1] at h ⊢
  rw [if_pos (by simpa using h),if_pos (by simpa using h)]
theorem move_doc (a:Ak) (hk:a.s.kind=7) (hx:(a.s.x==qc6)=false) (hy:(a.s.y==qc6)=false):(qjl a).1=if ((varT a.m a.s.x).2 != 0)=true then (varT a.m a.s.x).2 else docK a.p a.c a.m a.s (varT a.m a.s.x).1:=by
 obtain⟨e1,e2⟩:=qfk a hx
 unfold qjl
 by_cases h:(tgt a).1=0
 ·have hT:tgt a=(0,{ a with x:=(varT a.m a.s.x).1 }):=by rw [←e2 h,←h]
  obtain⟨f1,f2⟩:=vr_var { a with x:=(varT a.m a.s.x).1 } hy
  have e3:(varT a.m a.s.x).2=0:=by rw [←e1];exact h
  unfold docK
  rw [hT,e3,hk]
  dsimp only at f1 f2 ⊢
  by_cases g:(varT a.m a.s.y).2=0
  ·rw [f2 (by rw [f1];exact g),f1,g];simp
  ·rw [f1];simp [g]
 ·rw [if_pos (by simpa using h),←e1,if_pos (by simpa using h)]
theorem qni (a:Ak) (hk:a.s.kind=9∨a.s.kind=10):(qjz a).1=qk7 a.p a.c a.m a.s:=by
 unfold qjz qk7
 generalize oneT a.c a.m a.s.e=R
 rcases hk with hk|hk<;>rw [hk]<;>cases h2:(R.2==0)<;>cases h3:(R.1.kind==1)<;>simp_all
theorem callN_doc (a:Ak) (hk:a.s.kind=4) (hx:(a.s.x==[])=true) (h0:a.x=Ty.zero):(if ((obI a).1 != 0)=true then (obI a).1 else qh2 (obI a).2)=docK a.p a.c a.m a.s Ty.zero:=by
 obtain⟨e1,e2⟩:=qm6 a
 have hD:docK a.p a.c a.m a.s Ty.zero=qlb a.p a.c a.m a.s Ty.zero:=by unfold docK;rw [hk];rfl
 rw [hD]
 by_cases h:(obI a).1=0
 ·have e3:(objT a.c a.m a.s).2=0:=by rw [←e1];exact h
  have:=call_eq { a with o:=(objT a.c a.m a.s).1 } hk e3 rfl
  rw [e2 h,h,if_neg (by decide),this]
  dsimp only
  rw [h0]
 ·rw [if_pos (by simpa using h),e1]
  rw [e1] at h
  unfold qlb
  rw [if_pos (by simpa using h)]
theorem callX_doc (a:Ak) (hk:a.s.kind=4) (hx:(a.s.x==qc6)=false):(if ((tgt a).1 != 0)=true then (tgt a).1 else if ((obI (tgt a).2).1 != 0)=true then (obI (tgt a).2).1 else qh2 (obI (tgt a).2).2)=if ((varT a.m a.s.x).2 != 0)=true then (varT a.m a.s.x).2 else docK a.p a.c a.m a.s (varT a.m a.s.x).1:=by
 obtain⟨e1,e2⟩:=qfk a hx
 by_cases h:(tgt a).1=0
 ·have e3:(varT a.m a.s.x).2=0:=by rw [←e1];exact h
  have hD:docK a.p a.c a.m a.s (varT a.m a.s.x).1=qlb a.p a.c a.m a.s (varT a.m a.s.x).1:=by unfold docK;rw [hk];rfl
  rw [hD,e3,h,e2 h,if_neg (show ¬((0:Int) != 0)=true by decide),if_neg (show ¬((0:Int) != 0)=true by decide)]
  obtain⟨f1,f2⟩:=qm6 { a with x:=(varT a.m a.s.x).1 }
  dsimp only at f1 f2
  by_cases g:(obI { a with x:=(varT a.m a.s.x).1 }).1=0
  ·have e4:(objT a.c a.m a.s).2=0:=by rw [←f1];exact g
   have:=call_eq { a with x:=(varT a.m a.s.x).1,o:=(objT a.c a.m a.s).1 } hk e4 rfl
   rw [f2 g,g,if_neg (by decide),this]
  ·rw [if_pos (by simpa using g),f1]
   rw [f1] at g
   unfold qlb
   rw [if_pos (by simpa using g)]
 ·rw [if_pos (by simpa using h),←e1,if_pos (by simpa using h)]
theorem put_doc (a:Ak) (hk:a.s.kind=3):(putI a).1=docK a.p a.c a.m a.s Ty.zero:=by
 obtain⟨e1,e2⟩:=qm6 a
 have hD:docK a.p a.c a.m a.s Ty.zero=qhi a.p a.c a.m a.s Ty.zero:=by unfold docK;rw [hk];rfl
 rw [hD]
 unfold putI qhi
 by_cases h:(obI a).1=0
 ·have e3:(objT a.c a.m a.s).2=0:=by rw [←e1];exact h
  rw [e2 h,h,e3,if_neg (show ¬((0:Int) != 0)=true by decide),if_neg (show ¬((0:Int) != 0)=true by decide),hk]
  unfold fldI
  dsimp only
  generalize qa4 a.p (objT a.c a.m a.s).1.cls a.s.name=Z
  generalize oneT a.c a.m a.s.e=R
  cases h1:Z.2<;>cases h2:(R.2 != 0)<;>simp_all
 ·rw [if_pos (by simpa using h),e1]
  rw [e1] at h
  rw [if_pos (by simpa using h)]
theorem get_doc (a:Ak) (hk:a.s.kind=2) (hx:(a.s.x==qc6)=false):(getI a).1=if ((varT a.m a.s.x).2 != 0)=true then (varT a.m a.s.x).2 else docK a.p a.c a.m a.s (varT a.m a.s.x).1:=by
 obtain⟨e1,e2⟩:=qfk a hx
 unfold getI
 by_cases h:(tgt a).1=0
 ·have e3:(varT a.m a.s.x).2=0:=by rw [←e1];exact h
  have hD:docK a.p a.c a.m a.s (varT a.m a.s.x).1=qhi a.p a.c a.m a.s (varT a.m a.s.x).1:=by unfold docK;rw [hk];rfl
  rw [hD,e3,h,e2 h,if_neg (show ¬((0:Int) != 0)=true by decide),if_neg (show ¬((0:Int) != 0)=true by decide)]
  obtain⟨f1,f2⟩:=qm6 { a with x:=(varT a.m a.s.x).1 }
  dsimp only at f1 f2
  unfold qhi
  by_cases g:(obI { a with x:=(varT a.m a.s.x).1 }).1=0
  ·have e4:(objT a.c a.m a.s).2=0:=by rw [←f1];exact g
   rw [f2 g,g,e4,if_neg (show ¬((0:Int) != 0)=true by decide),if_neg (show ¬((0:Int) != 0)=true by decide),hk]
   unfold fldI
   dsimp only
   generalize qa4 a.p (objT a.c a.m a.s).1.cls a.s.name=Z
   cases h1:Z.2<;>simp
  ·rw [if_pos (by simpa using g),f1]
   rw [f1] at g
   rw [if_pos (by simpa using g)]
 ·rw [if_pos (by simpa using h),←e1,if_pos (by simpa using h)]
theorem ret_doc (a:Ak) (hk:a.s.kind=11):retI a=qk7 a.p a.c a.m a.s:=by
 unfold retI qk7
 rw [hk]
 cases h1:(a.s.e.kind==0)<;>cases h2:(a.m.ret.kind==0)<;>rfl
theorem del_doc (a:Ak) (hk:a.s.kind=8) (hy:(a.s.y==qc6)=false):(delI a).1=qk7 a.p a.c a.m a.s:=by
 obtain⟨f1,f2⟩:=vr_var a hy
 unfold delI qk7
 rw [hk]
 by_cases g:(varT a.m a.s.y).2=0
 ·rw [f2 (by rw [f1];exact g),f1,g]
  generalize (varT a.m a.s.y).1=t
  cases h1:(t.kind==2)<;>cases h2:qan t<;>simp_all
 ·rw [f1];simp [g]
theorem set_doc (a:Ak) (hk:a.s.kind=1) (hx:(a.s.x==qc6)=false):(setI a).1=if ((varT a.m a.s.x).2 != 0)=true then (varT a.m a.s.x).2 else docK a.p a.c a.m a.s (varT a.m a.s.x).1:=by
 obtain⟨e1,e2⟩:=qfk a hx
 unfold setI
 by_cases h:(tgt a).1=0
 ·have e3:(varT a.m a.s.x).2=0:=by rw [←e1];exact h
  unfold docK
  rw [e3,h,e2 h,hk]
  generalize oneT a.c a.m a.s.e=R
  cases h2:(R.2 != 0)<;>simp_all
 ·rw [if_pos (by simpa using h),←e1,if_pos (by simpa using h)]
theorem name_ne {s:List UInt8} (h:qaw s=true):(s==[])=false:=by
 cases s with
 | nil=>exact absurd h (by decide)
 | cons x r=>rfl
theorem qlp {s:St} {n:Int} (h:s.rightB n=true):1≤s.kind∧s.kind≤11∧(s.kind=3→s.x=[]) ∧
  (s.kind≠3→s.kind<8→qaw s.x=true∨s.kind=4∧s.x=[])∧(s.kind=7∨s.kind=8→qaw s.y=true):=by
 unfold St.rightB at h
 rw [St.form_eq,Bool.and_eq_true,Bool.and_eq_true] at h
 have h1:=h.1.1
 cases ho:s.onlyB<;>rw [ho] at h1
 ·simp at h1
 cases hn:s.namesB n<;>rw [hn] at h1
 ·simp at h1
 unfold St.onlyB at ho
 unfold St.namesB at hn
 simp only [Bool.and_eq_true,decide_eq_true_eq] at ho
 simp only [Bool.and_eq_true,Bool.or_eq_true,decide_eq_true_eq,beq_iff_eq] at hn
 obtain⟨⟨⟨⟨⟨⟨⟨o1,o2⟩,o3⟩,_⟩,_⟩,_⟩,_⟩,_⟩:=ho
 obtain⟨⟨⟨n1,n2⟩,_⟩,_⟩:=hn
 refine⟨o1,o2,fun h3=>?_,fun h3 h8=>?_,fun h7=>?_⟩
 ·have:s.blank.x=s.x:=by unfold St.blank;simp [h3]
  rw [this] at o3;simpa using o3
 ·rcases n1 with (((n1|n1)|n1)|n1)|n1
  ·exact .inl n1
  ·exact .inr n1
  ·exact absurd n1 h3
  ·omega
  ·omega
 ·rcases n2 with ((((n2|n2)|n2)|n2)|n2)|n2
  ·exact n2
  ·exfalso;rcases n2.1 with (k|k)|k<;>omega
  ·omega
  ·omega
  ·omega
  ·omega
theorem docI_e {p:List Cs} {c:Cs} {m:Me} {s:St} (hr:s.rightB (c.params.length:Int)=true) (h8:s.kind≥8):docI p c m s=qk7 p c m s:=by
 unfold docI;rw [hr,if_neg (by decide),if_pos (by simpa using h8)]
theorem docI_0 {p:List Cs} {c:Cs} {m:Me} {s:St} (hr:s.rightB (c.params.length:Int)=true) (h8:s.kind<8) (hx:s.x=[]):docI p c m s=docK p c m s Ty.zero:=by
 unfold docI;rw [hr,if_neg (by decide),if_neg (by simpa using h8),if_pos (by rw [hx];rfl)]
theorem qis {p:List Cs} {c:Cs} {m:Me} {s:St} (hr:s.rightB (c.params.length:Int)=true) (h8:s.kind<8) (hx:qaw s.x=true):docI p c m s=if ((varT m s.x).2 != 0)=true then (varT m s.x).2 else docK p c m s (varT m s.x).1:=by
 unfold docI;rw [hr,if_neg (by decide),if_neg (by simpa using h8),if_neg (by rw [name_ne hx];exact Bool.false_ne_true)]
theorem pAskDoc (a:Ak) (h:a.ok) (hzz:qaf Cs.sz a.p≤1048576) (hO:FdOf a.p) (h0:a.x=Ty.zero) (hr:a.s.rightB (a.c.params.length:Int)=true):∃b,DM Tryz.prog 52 [.a (.ptr 0 0)] [.cell (Ak.at a)] (.a (.v (.int .i64 (docI a.p a.c a.m a.s)))) [.cell (Ak.at b)]:=by
 obtain⟨o1,o2,o3,o4,o5⟩:=qlp hr
 by_cases k1:a.s.kind=1
 ·have hx:=(o4 (by omega) (by omega)).resolve_right fun q=>by omega
  rw [qis hr (by omega) hx,←set_doc a k1 (qd3 hx)];exact⟨_,pAskSet a h k1⟩
 by_cases k2:a.s.kind=2
 ·have hx:=(o4 (by omega) (by omega)).resolve_right fun q=>by omega
  rw [qis hr (by omega) hx,←get_doc a k2 (qd3 hx)];exact⟨_,pAskGet a h hO k2⟩
 by_cases k3:a.s.kind=3
 ·rw [docI_0 hr (by omega) (o3 k3),←put_doc a k3];exact⟨_,pAskPut a h hO k3⟩
 by_cases k4:a.s.kind=4
 ·rcases o4 (by omega) (by omega) with hx|⟨_,hx⟩
  ·rw [qis hr (by omega) hx,←callX_doc a k4 (qd3 hx)];exact pAskCallX a h hzz k4 (name_ne hx)
  ·rw [docI_0 hr (by omega) hx,←callN_doc a k4 (by rw [hx];rfl) h0];exact pAskCallN a h hzz k4 (by rw [hx];rfl)
 by_cases k5:a.s.kind=5
 ·have hx:=(o4 (by omega) (by omega)).resolve_right fun q=>by omega
  rw [qis hr (by omega) hx,←new_doc a k5 (qd3 hx)];exact pAskNew a h k5
 by_cases k6:a.s.kind=6
 ·have hx:=(o4 (by omega) (by omega)).resolve_right fun q=>by omega
  rw [qis hr (by omega) hx,←cast_doc a k6 (qd3 hx)];exact pAskCast a h k6
 by_cases k7:a.s.kind=7
 ·have hx:=(o4 (by omega) (by omega)).resolve_right fun q=>by omega
  rw [qis hr (by omega) hx,←move_doc a k7 (qd3 hx) (qd3 (o5 (.inl k7)))];exact⟨_,pAskMove a h k7⟩
 rw [docI_e hr (by omega)]
 by_cases k8:a.s.kind=8
 ·rw [←del_doc a k8 (qd3 (o5 (.inr k8)))];exact⟨_,pAskDel a h k8⟩
 by_cases k9:a.s.kind=9
 ·rw [←qni a (.inl k9)];exact⟨_,pAskIf a h k9⟩
 by_cases k10:a.s.kind=10
 ·rw [←qni a (.inr k10)];exact⟨_,pAskWhile a h k10⟩
 have k11:a.s.kind=11:=by omega
 rw [←ret_doc a k11];exact⟨_,pAskRet a h k11⟩
theorem pgStmtN (p:List Cs) (c:Cs) (m:Me) (s:St) (hz:s.sz≤1048576) (hr:s.rightB (c.params.length:Int)=false):qaa Tryz.prog 21 [.a (.sl (p.map Cs.at)),.r (Cs.at c),.r (Me.at m),.r (St.at s)] (.a (.v (.int .i64 28))):=by
 refine qaa.go Tryz.func21 rfl Tryz.ntmps21 rfl rfl rfl (fun C hro=>?_)
 have fx:=trivial
 have haz:=Ak.z0
 replace fx:=ai15 haz (ai15 hr trivial)
 repeat' (first|refine stp [0,1,2,3,5,6,7,8,9,15] ?_|(refine stc (r1:=by exact psRight s _ hz) (r2:=?_);refine rnx ?_)|fail)
 rfl
theorem pgStmtD (p:List Cs) (c:Cs) (m:Me) (s:St) (h:Ak.ok ⟨p,c,m,s,Ty.zero,Ty.zero⟩) (hzz:qaf Cs.sz p≤1048576) (hO:FdOf p):qaa Tryz.prog 21 [.a (.sl (p.map Cs.at)),.r (Cs.at c),.r (Me.at m),.r (St.at s)] (.a (.v (.int .i64 (docI p c m s)))):=by
 cases hr:s.rightB (c.params.length:Int) with
 | true =>
  obtain⟨b,hb⟩:=pAskDoc ⟨p,c,m,s,Ty.zero,Ty.zero⟩ h hzz hO rfl hr
  have:=pgStmt p c m s _ b h.nz hb
  unfold stmI at this
  rwa [if_pos hr] at this
 | false =>
  have:=pgStmtN p c m s h.nz hr
  unfold docI
  rwa [hr,if_pos (by rfl)]
end Go.Proofs.YthkojpnjdpbcgaaGreatDoor
