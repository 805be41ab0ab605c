/- The document's fit of a statement, part by part, on plain data. Conditions: at most 2^20 of anything. -/
import Derived.Test.YthkojpnjdpbcgaaGreatDoorMh36
import Derived.Test.YthkojpnjdpbcgaaGreatDoorMh37
set_option linter.unusedVariables false
set_option maxRecDepth 100000
set_option maxHeartbeats 8000000
set_option linter.unusedSimpArgs false
namespace Go.Proofs.YthkojpnjdpbcgaaGreatDoor
open Go.RowKit
structure Pc.ok (w:Pc):Prop where
 p:w.p.length≤1048576
 c:w.c.params.length≤1048576
 a:w.m.params.length≤1048576
 b:w.m.locals.length≤1048576
 f:qad (fun c=>c.fields.length) w.p≤1048576
 z:qad Cs.sz w.p≤1048576
def varT (m:Me) (s:List UInt8):Ty×Int:=if qa3 m s<0 then (Ty.zero,13) else ((((m.params++m.locals)[(qa3 m s).toNat]?).map Vr.ty).getD Ty.zero,0)
def objT (c:Cs) (m:Me) (s:St):Ty×Int:=if (!(qam c m s.y).2)=true then ((qam c m s.y).1,13) else if ((qam c m s.y).1.kind != 2)=true then ((qam c m s.y).1,14) else if (qar (qam c m s.y).1&&s.kind != 4)=true then ((qam c m s.y).1,22) else ((qam c m s.y).1,0)
def qnp (p:List Cs) (r u:Ty):Int:=if (r.kind==0)=true then 14 else if (!qar r&&!qar u)=true then qc5 p r u else if (!qar u)=true then 22 else qej p r u
theorem qeb (w:Pc) (s:List UInt8) (h:w.ok):qaa Tryz.prog 62 [.r (Pc.at w),.a (.v (.string (bs s)))] (.t [.r (Ty.at (varT w.m s).1),.a (.v (.int .i64 (varT w.m s).2))]):=by
 have hv:=qkf w.m h.a h.b
 have hpl:=qht w.m s h.a h.b
 rcases qge w.m s with hp|⟨j,z,hz,_,hp⟩
 ·rw [hp] at hpl
  rw [show varT w.m s=(Ty.zero,13) by unfold varT;rw [hp,if_pos (by omega)]]
  have hd:decide ((-1:Int)<0)=true:=by decide
  refine qaa.go Tryz.func62 rfl Tryz.ntmps62 rfl rfl rfl (fun C hro=>?_)
  have fx:=trivial
  replace fx:=ai15 hd (ai15 tyZ trivial)
  repeat' (first|refine stp [0,1,2,4,5,6,12] ?_|(refine stc (r1:=by exact hpl) (r2:=?_);refine rnx ?_)|fail)
  rfl
 ·rw [hp] at hpl
  rw [show varT w.m s=(z.ty,0) by unfold varT;rw [hp,if_neg (by omega),Int.toNat_natCast,hz];rfl]
  have hd:decide ((j:Int)<0)=false:=decide_eq_false (by omega)
  have hjx:∀q2,ixD (some 13) q2 (.a (.sl ((w.m.params++w.m.locals).map Vr.at))) (.a (.v (.int .i64 (j:Int))))=some (.a (.ref (Vr.at z) 0)):=fun q2=>qaq rfl (by rw [List.getElem?_map,hz];rfl) (by simp only [go_sem])
  refine qaa.go Tryz.func62 rfl Tryz.ntmps62 rfl rfl rfl (fun C hro=>?_)
  have fx:=trivial
  replace fx:=ai15 hd (ai15 hjx (ai15 tyZ trivial))
  repeat' (first|refine stp [0,1,2,4,5,6,12] ?_|(refine stc (r1:=by first|exact hpl|exact hv) (r2:=?_);refine rnx ?_)|fail)
  rfl
theorem qgd (w:Pc) (s:St) (h:w.ok):qaa Tryz.prog 125 [.r (Pc.at w),.r (St.at s)] (.t [.r (Ty.at (objT w.c w.m s).1),.a (.v (.int .i64 (objT w.c w.m s).2))]):=by
 have hq:=qke w.c w.m s.y h.c h.a h.b
 unfold objT
 generalize qam w.c w.m s.y=R at hq ⊢
 refine qaa.go Tryz.func125 rfl Tryz.ntmps125 rfl rfl rfl (fun C hro=>?_)
 have fx:=trivial
 replace fx:=ai15 tyZ trivial
 repeat' (first|refine stp [0,1,2,3,4,5,6,7,19,23,31] ?_|(refine stc (r1:=by first|exact hq|exact qbg R.1) (r2:=?_);refine rnx ?_)|refine WP.cn (fun hc=>?_) (fun hc=>?_)|fail)
 all_goals simp only [*,if_true,Bool.false_eq_true,if_false]
theorem qlu (w:Pc) (e:Ex) (u:Ty) (h:w.ok) (hz:e.sz≤1048576):qaa Tryz.prog 124 [.r (Pc.at w),.r (Ex.at e),.r (Ty.at u)] (.a (.v (.int .i64 (qe1 w.p w.c w.m e u)))):=by
 have h1:=qjd w.c w.m e h.c h.a h.b hz
 have hp:=h.p
 unfold qe1
 generalize oneT w.c w.m e=R at h1 ⊢
 refine qaa.go Tryz.func124 rfl Tryz.ntmps124 rfl rfl rfl (fun C hro=>?_)
 have fx:=trivial
 replace fx:=ai15 tyZ trivial
 repeat' (first|refine stp [0,1,2,3,4,5,6,7,8,19,27] ?_|(refine stc (r1:=by first|exact h1|exact qbg u|exact qhs w.p R.1 u hp|exact qeo w.p R.1 u hp) (r2:=?_);refine rnx ?_)|refine WP.cn (fun hc=>?_) (fun hc=>?_)|fail)
 all_goals (refine qaw ?_;simp_all)
theorem pr20back (w:Pc) (r u:Ty) (h:w.ok):qaa Tryz.prog 126 [.r (Pc.at w),.r (Ty.at r),.r (Ty.at u)] (.a (.v (.int .i64 (qnp w.p r u)))):=by
 have hp:=h.p
 refine qaa.go Tryz.func126 rfl Tryz.ntmps126 rfl rfl rfl (fun C hro=>?_)
 have fx:=trivial
 replace fx:=ai15 tyZ trivial
 repeat' (first|refine stp [0,1,2,3,4,5,6,9,17,25] ?_|(refine stc (r1:=by first|exact qbg r|exact qbg u|exact qhs w.p r u hp|exact qeo w.p r u hp) (r2:=?_);refine rnx ?_)|refine WP.cn (fun hc=>?_) (fun hc=>?_)|fail)
 all_goals (refine qaw ?_;unfold qnp;simp_all)
def madeI (p:List Cs) (c:Cs) (m:Me) (s:St) (x:Ty):Int :=
 if (s.kind==5)=true then (if (x.kind != 2)=true then 14 else if (qar x != qar s.ty)=true then 22 else if (!qb1 p s.ty.cls x.cls)=true then 15 else 0)
 else if qar s.ty=true then 22 else if ((oneT c m s.e).2 != 0)=true then (oneT c m s.e).2 else if ((oneT c m s.e).1.kind != 2&&(oneT c m s.e).1.kind != 3)=true then 14 else if qar (oneT c m s.e).1=true then 22 else qc5 p s.ty x
def qff (p:List Cs) (c:Cs) (m:Me) (s:St) (x:Ty):Int :=
 if ((objT c m s).2 != 0)=true then (objT c m s).2 else if (!(qa2 p (objT c m s).1.cls s.name).2)=true then 11 else if (s.kind==2)=true then qc5 p (qa2 p (objT c m s).1.cls s.name).1.var.ty x else if ((oneT c m s.e).2 != 0)=true then (oneT c m s.e).2 else qc5 p (oneT c m s.e).1 (qa2 p (objT c m s).1.cls s.name).1.var.ty
def qit (p:List Cs) (c:Cs) (m:Me) (s:St):Int :=
 if (s.kind==11)=true then (if ((m.ret.kind==0) != (s.e.kind==0))=true then 14 else if (s.e.kind==0)=true then 0 else qe1 p c m s.e m.ret)
 else if (s.kind==8)=true then (if ((varT m s.y).2 != 0)=true then (varT m s.y).2 else if ((varT m s.y).1.kind != 2)=true then 14 else if (!qar (varT m s.y).1)=true then 22 else 0)
 else if ((oneT c m s.e).2==0&&(oneT c m s.e).1.kind != 1)=true then 14 else (oneT c m s.e).2
theorem pr20made (w:Pc) (s:St) (x:Ty) (h:w.ok) (hz:s.e.sz≤1048576):qaa Tryz.prog 65 [.r (Pc.at w),.r (St.at s),.r (Ty.at x)] (.a (.v (.int .i64 (madeI w.p w.c w.m s x)))):=by
 have h1:=qjd w.c w.m s.e h.c h.a h.b hz
 have hp:=h.p
 unfold madeI
 generalize oneT w.c w.m s.e=R at h1 ⊢
 refine qaa.go Tryz.func65 rfl Tryz.ntmps65 rfl rfl rfl (fun C hro=>?_)
 have fx:=trivial
 replace fx:=ai15 tyZ trivial
 repeat' (first|refine stp [0,1,2,3,4,5,6,7,8,11,14,20,29,32,44,53,55] ?_|(refine stc (r1:=by first|exact h1|exact qbg s.ty|exact qbg x|exact qbg R.1|exact qfv w.p s.ty.cls x.cls hp|exact qeo w.p s.ty x hp) (r2:=?_);refine rnx ?_)|refine WP.cn (fun hc=>?_) (fun hc=>?_)|((refine WP.dw (id:=4) 6 [0,1,2,3,4,5,6,7,8,11,14,20,29,32,44,53,55] ?_);simp only [qbd,List.drop_succ_cons,List.drop_zero,List.drop_nil])|fail)
 all_goals (refine qaw ?_;first|(simp only [*,if_true,Bool.false_eq_true,if_false];done)|simp_all)
theorem qpc (w:Pc) (s:St) (x:Ty) (h:w.ok) (hz:s.e.sz≤1048576):qaa Tryz.prog 64 [.r (Pc.at w),.r (St.at s),.r (Ty.at x)] (.a (.v (.int .i64 (qff w.p w.c w.m s x)))):=by
 have h1:=qjd w.c w.m s.e h.c h.a h.b hz
 have h2:=qgd w s h
 have h3:=pr16Of w.p (objT w.c w.m s).1.cls s.name h.p h.f
 have hp:=h.p
 unfold qff
 generalize oneT w.c w.m s.e=R at h1 ⊢
 generalize objT w.c w.m s=O at h2 h3 ⊢
 generalize qa2 w.p O.1.cls s.name=Z at h3 ⊢
 have zF:=Fs.z0
 refine qaa.go Tryz.func64 rfl Tryz.ntmps64 rfl rfl rfl (fun C hro=>?_)
 have fx:=trivial
 replace fx:=ai15 tyZ (ai15 zF trivial)
 repeat' (first|refine stp [0,1,2,3,4,5,6,7,8,9,10,11,12,20,33,36,55] ?_|(refine stc (r1:=by first|exact h1|exact h2|exact h3|exact qeo w.p Z.1.var.ty x hp|exact qeo w.p R.1 Z.1.var.ty hp) (r2:=?_);refine rnx ?_)|refine WP.cn (fun hc=>?_) (fun hc=>?_)|fail)
 all_goals (refine qaw ?_;first|(simp only [*,if_true,Bool.false_eq_true,if_false];done)|simp_all)
theorem pr20ends (w:Pc) (s:St) (h:w.ok) (hz:s.e.sz≤1048576):qaa Tryz.prog 61 [.r (Pc.at w),.r (St.at s)] (.a (.v (.int .i64 (qit w.p w.c w.m s)))):=by
 have h1:=qjd w.c w.m s.e h.c h.a h.b hz
 have h2:=qeb w s.y h
 have h3:=qlu w s.e w.m.ret h hz
 unfold qit
 generalize oneT w.c w.m s.e=R at h1 ⊢
 generalize varT w.m s.y=V at h2 ⊢
 refine qaa.go Tryz.func61 rfl Tryz.ntmps61 rfl rfl rfl (fun C hro=>?_)
 have fx:=trivial
 replace fx:=ai15 tyZ trivial
 repeat' (first|refine stp [0,1,2,3,4,5,6,7,8,11,21,25,35,44,48,51,68] ?_|(refine stc (r1:=by first|exact h1|exact h2|exact h3|exact qbg V.1) (r2:=?_);refine rnx ?_)|refine WP.cn (fun hc=>?_) (fun hc=>?_)|fail)
 all_goals (refine qaw ?_;first|(simp only [*,if_true,Bool.false_eq_true,if_false];done)|(cases q1:(w.m.ret.kind==0)<;>cases q2:(s.e.kind==0)<;>simp_all))
end Go.Proofs.YthkojpnjdpbcgaaGreatDoor
