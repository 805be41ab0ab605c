/- The document's fit of a statement, part by part, on plain data. Conditions: at most 2^20 of anything. -/
import Derived.Test.YtibdalkdgjghoaaGreatDoorMg35
import Derived.Test.YtibdalkdgjghoaaGreatDoorMg39
import Derived.Test.YtibdalkdgjghoaaGreatDoorMg42
set_option linter.unusedVariables false
set_option maxRecDepth 100000
set_option maxHeartbeats 8000000
set_option linter.unusedSimpArgs false
namespace Go.Proofs.YtibdalkdgjghoaaGreatDoor
open Go.RowKit
structure Pc.ok (w:Pc):Prop where
 p:w.p.length≤1048576
 c:w.c.params.length≤1048576
 a:w.m.params.length≤1048576
 b:w.m.locals.length≤1048576
 f:sumOf (fun c=>c.fields.length) w.p≤1048576
 z:sumOf Cs.sz w.p≤1048576
def varT (m:Me) (s:List UInt8):Ty×Int:=if placeI m s<0 then (Ty.zero,13) else ((((m.params++m.locals)[(placeI m s).toNat]?).map Vr.ty).getD Ty.zero,0)
def objT (c:Cs) (m:Me) (s:St):Ty×Int:=if (!(typeT c m s.y).2)=true then ((typeT c m s.y).1,13) else if ((typeT c m s.y).1.kind != 2)=true then ((typeT c m s.y).1,14) else if (uniqB (typeT c m s.y).1&&s.kind != 4)=true then ((typeT c m s.y).1,22) else ((typeT c m s.y).1,0)
def backI (p:List Cs) (r u:Ty):Int:=if (r.kind==0)=true then 14 else if (!uniqB r&&!uniqB u)=true then fitsI p r u else if (!uniqB u)=true then 22 else givesI p r u
theorem pr20variable (w:Pc) (s:List UInt8) (h:w.ok):DPure Tryz.prog 63 [.r (Pc.at w),.a (.v (.string (bs s)))] (.t [.r (Ty.at (varT w.m s).1),.a (.v (.int .i64 (varT w.m s).2))]):=by
 have hv:=pr12Vars w.m h.a h.b
 have hpl:=pr18Place w.m s h.a h.b
 rcases placeI_get w.m s with hp|⟨j,z,hz,_,hp⟩
 ·rw [hp] at hpl
  rw [show varT w.m s=(Ty.zero,13) by unfold varT;rw [hp,if_pos (by omega)]]
  have hd:decide ((-1:Int)<0)=true:=by decide
  refine DPure.go Tryz.func63 rfl Tryz.ntmps63 rfl rfl rfl (fun C hro=>?_)
  have fx:=trivial
  replace fx:=And.intro hd (And.intro tyZ trivial)
  repeat' (first|refine stp [0,1,2,4,5,6,12] ?_|(refine RS.sE ?_;refine rnx ?_)|(refine RS.xC ?_;refine rnx ?_)|(refine stc (r1:=by exact hpl) (r2:=?_);refine rnx ?_)|refine WP.cn (fun hc=>?_) (fun hc=>?_)|fail)
  rfl
 ·rw [hp] at hpl
  rw [show varT w.m s=(z.ty,0) by unfold varT;rw [hp,if_neg (by omega),Int.toNat_natCast,hz];rfl]
  have hd:decide ((j:Int)<0)=false:=decide_eq_false (by omega)
  have hjx:∀q2,ixD (some 13) q2 (.a (.sl ((w.m.params++w.m.locals).map Vr.at))) (.a (.v (.int .i64 (j:Int))))=some (.a (.ref (Vr.at z) 0)):=fun q2=>ixD_at rfl (by rw [List.getElem?_map,hz];rfl) (by simp only [go_sem])
  refine DPure.go Tryz.func63 rfl Tryz.ntmps63 rfl rfl rfl (fun C hro=>?_)
  have fx:=trivial
  replace fx:=And.intro hd (And.intro hjx (And.intro tyZ trivial))
  repeat' (first|refine stp [0,1,2,4,5,6,12] ?_|(refine RS.sE ?_;refine rnx ?_)|(refine RS.xC ?_;refine rnx ?_)|(refine stc (r1:=by first|exact hpl|exact hv) (r2:=?_);refine rnx ?_)|refine WP.cn (fun hc=>?_) (fun hc=>?_)|fail)
  rfl
theorem pr20object (w:Pc) (s:St) (h:w.ok):DPure Tryz.prog 50 [.r (Pc.at w),.r (St.at s)] (.t [.r (Ty.at (objT w.c w.m s).1),.a (.v (.int .i64 (objT w.c w.m s).2))]):=by
 have hq:=pr18Type w.c w.m s.y h.c h.a h.b
 unfold objT
 generalize typeT w.c w.m s.y=R at hq ⊢
 refine DPure.go Tryz.func50 rfl Tryz.ntmps50 rfl rfl rfl (fun C hro=>?_)
 have fx:=trivial
 replace fx:=And.intro tyZ trivial
 repeat' (first|refine stp [0,1,2,3,4,5,6,7,19,23,31] ?_|(refine RS.sE ?_;refine rnx ?_)|(refine RS.pk ?_;refine rnx ?_)|(refine RS.gF ?_;refine rnx ?_)|(refine stc (r1:=by first|exact hq|exact prUnique R.1) (r2:=?_);refine rnx ?_)|refine WP.cn (fun hc=>?_) (fun hc=>?_)|fail)
 all_goals simp only [*,if_true,Bool.false_eq_true,if_false]
theorem pr20Suits (w:Pc) (e:Ex) (u:Ty) (h:w.ok) (hz:e.sz≤1048576):DPure Tryz.prog 20 [.r (Pc.at w),.r (Ex.at e),.r (Ty.at u)] (.a (.v (.int .i64 (suitsI w.p w.c w.m e u)))):=by
 have h1:=pr19Of w.c w.m e h.c h.a h.b hz
 have hp:=h.p
 unfold suitsI
 generalize oneT w.c w.m e=R at h1 ⊢
 refine DPure.go Tryz.func20 rfl Tryz.ntmps20 rfl rfl rfl (fun C hro=>?_)
 have fx:=trivial
 replace fx:=And.intro tyZ trivial
 repeat' (first|refine stp [0,1,2,3,4,5,6,7,8,19,27] ?_|(refine RS.sE ?_;refine rnx ?_)|(refine RS.pk ?_;refine rnx ?_)|(refine RS.gF ?_;refine rnx ?_)|(refine stc (r1:=by first|exact h1|exact prUnique u|exact pr19Gives w.p R.1 u hp|exact pr19Fits w.p R.1 u hp) (r2:=?_);refine rnx ?_)|refine WP.cn (fun hc=>?_) (fun hc=>?_)|fail)
 all_goals (refine int_eq ?_;simp_all)
theorem pr20back (w:Pc) (r u:Ty) (h:w.ok):DPure Tryz.prog 134 [.r (Pc.at w),.r (Ty.at r),.r (Ty.at u)] (.a (.v (.int .i64 (backI w.p r u)))):=by
 have hp:=h.p
 refine DPure.go Tryz.func134 rfl Tryz.ntmps134 rfl rfl rfl (fun C hro=>?_)
 have fx:=trivial
 replace fx:=And.intro tyZ trivial
 repeat' (first|refine stp [0,1,2,3,4,5,6,9,17,25] ?_|(refine RS.pk ?_;refine rnx ?_)|(refine RS.gF ?_;refine rnx ?_)|(refine stc (r1:=by first|exact prUnique r|exact prUnique u|exact pr19Gives w.p r u hp|exact pr19Fits w.p r u hp) (r2:=?_);refine rnx ?_)|refine WP.cn (fun hc=>?_) (fun hc=>?_)|fail)
 all_goals (refine int_eq ?_;unfold backI;simp_all)
def madeI (p:List Cs) (c:Cs) (m:Me) (s:St) (x:Ty):Int :=
 if (s.kind==5)=true then (if (x.kind != 2)=true then 14 else if (uniqB x != uniqB s.ty)=true then 22 else if (!belowB p s.ty.cls x.cls)=true then 15 else 0)
 else if uniqB s.ty=true then 22 else if ((oneT c m s.e).2 != 0)=true then (oneT c m s.e).2 else if ((oneT c m s.e).1.kind != 2&&(oneT c m s.e).1.kind != 3)=true then 14 else if uniqB (oneT c m s.e).1=true then 22 else fitsI p s.ty x
def fieldsI (p:List Cs) (c:Cs) (m:Me) (s:St) (x:Ty):Int :=
 if ((objT c m s).2 != 0)=true then (objT c m s).2 else if (!(slotF p (objT c m s).1.cls s.name).2)=true then 11 else if (s.kind==2)=true then fitsI p (slotF p (objT c m s).1.cls s.name).1.var.ty x else if ((oneT c m s.e).2 != 0)=true then (oneT c m s.e).2 else fitsI p (oneT c m s.e).1 (slotF p (objT c m s).1.cls s.name).1.var.ty
def endsI (p:List Cs) (c:Cs) (m:Me) (s:St):Int :=
 if (s.kind==11)=true then (if ((m.ret.kind==0) != (s.e.kind==0))=true then 14 else if (s.e.kind==0)=true then 0 else suitsI p c m s.e m.ret)
 else if (s.kind==8)=true then (if ((varT m s.y).2 != 0)=true then (varT m s.y).2 else if ((varT m s.y).1.kind != 2)=true then 14 else if (!uniqB (varT m s.y).1)=true then 22 else 0)
 else if ((oneT c m s.e).2==0&&(oneT c m s.e).1.kind != 1)=true then 14 else (oneT c m s.e).2
theorem pr20made (w:Pc) (s:St) (x:Ty) (h:w.ok) (hz:s.e.sz≤1048576):DPure Tryz.prog 66 [.r (Pc.at w),.r (St.at s),.r (Ty.at x)] (.a (.v (.int .i64 (madeI w.p w.c w.m s x)))):=by
 have h1:=pr19Of w.c w.m s.e h.c h.a h.b hz
 have hp:=h.p
 unfold madeI
 generalize oneT w.c w.m s.e=R at h1 ⊢
 refine DPure.go Tryz.func66 rfl Tryz.ntmps66 rfl rfl rfl (fun C hro=>?_)
 have fx:=trivial
 replace fx:=And.intro tyZ trivial
 repeat' (first|refine stp [0,1,2,3,4,5,6,7,8,11,14,20,29,32,44,53,55] ?_|(refine RS.sE ?_;refine rnx ?_)|(refine RS.pk ?_;refine rnx ?_)|(refine RS.gF ?_;refine rnx ?_)|(refine stc (r1:=by first|exact h1|exact prUnique s.ty|exact prUnique x|exact prUnique R.1|exact pr14Below w.p s.ty.cls x.cls hp|exact pr19Fits w.p s.ty x hp) (r2:=?_);refine rnx ?_)|refine WP.cn (fun hc=>?_) (fun hc=>?_)|((first|refine WP.dw (id:=4) 6 [0,1,2,3,4,5,6,7,8,11,14,20,29,32,44,53,55] ?_);simp only [RQr_mk,List.drop_succ_cons,List.drop_zero,List.drop_nil])|fail)
 all_goals (refine int_eq ?_;first|(simp only [*,if_true,Bool.false_eq_true,if_false];done)|simp_all)
theorem pr20fields (w:Pc) (s:St) (x:Ty) (h:w.ok) (hz:s.e.sz≤1048576):DPure Tryz.prog 65 [.r (Pc.at w),.r (St.at s),.r (Ty.at x)] (.a (.v (.int .i64 (fieldsI w.p w.c w.m s x)))):=by
 have h1:=pr19Of w.c w.m s.e h.c h.a h.b hz
 have h2:=pr20object w s h
 have h3:=pr16Of w.p (objT w.c w.m s).1.cls s.name h.p h.f
 have hp:=h.p
 unfold fieldsI
 generalize oneT w.c w.m s.e=R at h1 ⊢
 generalize objT w.c w.m s=O at h2 h3 ⊢
 generalize slotF w.p O.1.cls s.name=Z at h3 ⊢
 have zF:=Fs.z0
 refine DPure.go Tryz.func65 rfl Tryz.ntmps65 rfl rfl rfl (fun C hro=>?_)
 have fx:=trivial
 replace fx:=And.intro tyZ (And.intro zF trivial)
 repeat' (first|refine stp [0,1,2,3,4,5,6,7,8,9,10,11,12,20,33,36,55] ?_|(refine RS.sE ?_;refine rnx ?_)|(refine stc (r1:=by first|exact h1|exact h2|exact h3|exact pr19Fits w.p Z.1.var.ty x hp|exact pr19Fits w.p R.1 Z.1.var.ty hp) (r2:=?_);refine rnx ?_)|refine WP.cn (fun hc=>?_) (fun hc=>?_)|fail)
 all_goals (refine int_eq ?_;first|(simp only [*,if_true,Bool.false_eq_true,if_false];done)|simp_all)
theorem pr20ends (w:Pc) (s:St) (h:w.ok) (hz:s.e.sz≤1048576):DPure Tryz.prog 62 [.r (Pc.at w),.r (St.at s)] (.a (.v (.int .i64 (endsI w.p w.c w.m s)))):=by
 have h1:=pr19Of w.c w.m s.e h.c h.a h.b hz
 have h2:=pr20variable w s.y h
 have h3:=pr20Suits w s.e w.m.ret h hz
 unfold endsI
 generalize oneT w.c w.m s.e=R at h1 ⊢
 generalize varT w.m s.y=V at h2 ⊢
 refine DPure.go Tryz.func62 rfl Tryz.ntmps62 rfl rfl rfl (fun C hro=>?_)
 have fx:=trivial
 replace fx:=And.intro tyZ trivial
 repeat' (first|refine stp [0,1,2,3,4,5,6,7,8,11,21,25,35,44,48,51,68] ?_|(refine RS.sE ?_;refine rnx ?_)|(refine RS.pk ?_;refine rnx ?_)|(refine RS.gF ?_;refine rnx ?_)|(refine stc (r1:=by first|exact h1|exact h2|exact h3|exact prUnique V.1) (r2:=?_);refine rnx ?_)|refine WP.cn (fun hc=>?_) (fun hc=>?_)|fail)
 all_goals (refine int_eq ?_;first|(simp only [*,if_true,Bool.false_eq_true,if_false];done)|(cases q1:(w.m.ret.kind==0)<;>cases q2:(s.e.kind==0)<;>simp_all))
end Go.Proofs.YtibdalkdgjghoaaGreatDoor
namespace Go.Proofs.YtibdalkdgjghoaaGreatDoor
open Go.RowKit
theorem St.arg_sz (s:St):∀e∈s.args,e.sz≤s.sz:=by
 obtain⟨k,x,y,nm,ty,e,ar,bo,el,at_⟩:=s
 intro e1 he
 have h1:∀(l:List Ex) (e1:Ex),e1∈l→e1.sz≤Ex.szs l:=by
  intro l
  induction l with
  | nil=>intro e1 h;cases h
  | cons a r ih =>
   intro e1 h
   rw [Ex.szs]
   rcases List.mem_cons.1 h with rfl|h
   ·omega
   ·have:=ih e1 h;omega
 have:=h1 ar e1 he
 rw [St.sz];omega
def calM (p:List Cs) (c:Cs) (m:Me) (s:St):Option Fd:=if ((objT c m s).2 != 0||s.kind != 4)=true then none else findMe p (objT c m s).1.cls s.name
def argsI (p:List Cs) (c:Cs) (m:Me):List Ex→List Vr→Int
 | e::r,v::t=>if (suitsI p c m e v.ty != 0)=true then suitsI p c m e v.ty else argsI p c m r t
 | _,_=>0
def callI (p:List Cs) (c:Cs) (m:Me) (s:St) (x:Ty):Int :=
 if ((objT c m s).2 != 0)=true then (objT c m s).2 else match calM p c m s with
  | none=>12
  | some f=>if ((f.m.params.length:Int) != (s.args.length:Int))=true then 16 else if (argsI p c m s.args f.m.params != 0)=true then argsI p c m s.args f.m.params else if (s.x==[])=true then 0 else backI p f.m.ret x
theorem pr20Callee (w:Pc) (s:St) (h:w.ok):DPure Tryz.prog 18 [.r (Pc.at w),.r (St.at s)] (.t [.r (Fd.at (fdS (calM w.p w.c w.m s)).1),.a (.v (.bool (fdS (calM w.p w.c w.m s)).2))]):=by
 have h2:=pr20object w s h
 have h3:=pr17Find w.p (objT w.c w.m s).1.cls s.name h.z
 have zd:=Fd.z0
 unfold calM
 generalize objT w.c w.m s=O at h2 h3 ⊢
 generalize findMe w.p O.1.cls s.name=Z at h3 ⊢
 refine DPure.go Tryz.func18 rfl Tryz.ntmps18 rfl rfl rfl (fun C hro=>?_)
 have fx:=trivial
 replace fx:=And.intro zd trivial
 repeat' (first|refine stp [0,1,2,3,4,5,6,7,20] ?_|(refine RS.sE ?_;refine rnx ?_)|(refine RS.pk ?_;refine rnx ?_)|(refine RS.gF ?_;refine rnx ?_)|(refine stc (r1:=by first|exact h2|exact h3) (r2:=?_);refine rnx ?_)|refine WP.cn (fun hc=>?_) (fun hc=>?_)|fail)
 ·rw [if_pos hc];rfl
 ·rw [if_neg (by rw [hc];exact Bool.false_ne_true)]
theorem pr20call (w:Pc) (s:St) (x:Ty) (h:w.ok) (hs:s.sz≤1048576) (hq:∀f,calM w.p w.c w.m s=some f→f.m.params.length≤1048576):DPure Tryz.prog 64 [.r (Pc.at w),.r (St.at s),.r (Ty.at x)] (.a (.v (.int .i64 (callI w.p w.c w.m s x)))):=by
 have h2:=pr20object w s h
 have h3:=pr20Callee w s h
 have zd:=Fd.z0
 unfold callI
 generalize objT w.c w.m s=O at h2 ⊢
 generalize calM w.p w.c w.m s=Z at h3 hq ⊢
 cases Z with
 | none =>
  dsimp only [fdS] at h3
  refine DPure.go Tryz.func64 rfl Tryz.ntmps64 rfl rfl rfl (fun C hro=>?_)
  have fx:=trivial
  replace fx:=And.intro zd (And.intro tyZ trivial)
  repeat' (first|refine stp [0,1,2,3,4,5,6,8,9,10,11,19,28,36,41,59,63] ?_|(refine RS.sE ?_;refine rnx ?_)|(refine RS.lC ?_;refine rnx ?_)|(refine RS.xC ?_;refine rnx ?_)|(refine stc (r1:=by first|exact h2|exact h3) (r2:=?_);refine rnx ?_)|refine WP.cn (fun hc=>?_) (fun hc=>?_)|((first|refine WP.dw (id:=12) 15 [0,1,2,3,4,5,6,8,9,10,11,19,28,36,41,59,63] ?_);simp only [RQr_mk,List.drop_succ_cons,List.drop_zero,List.drop_nil])|fail)
  all_goals (refine int_eq ?_;simp only [*,if_true,Bool.false_eq_true,if_false])
 | some f =>
  have h4:=pr20back w f.m.ret x h
  have hql:=hq f rfl
  dsimp only [fdS] at h3
  refine DPure.go Tryz.func64 rfl Tryz.ntmps64 rfl rfl rfl (fun C hro=>?_)
  have fx:=trivial
  replace fx:=And.intro zd (And.intro tyZ trivial)
  repeat' (first|refine stp [0,1,2,3,4,5,6,8,9,10,11,19,28,36,41,59,63] ?_|(refine RS.sE ?_;refine rnx ?_)|(refine RS.lC ?_;refine rnx ?_)|(refine RS.xC ?_;refine rnx ?_)|(refine stc (r1:=by first|exact h2|exact h3|exact h4) (r2:=?_);refine rnx ?_)|refine WP.cn (fun hc=>?_) (fun hc=>?_)|((first|refine WP.dw (id:=12) 15 [0,1,2,3,4,5,6,8,9,10,11,19,28,36,41,59,63] ?_);simp only [RQr_mk,List.drop_succ_cons,List.drop_zero,List.drop_nil])|fail)
  ·exact int_eq (by rw [if_pos hc])
  ·rename_i h5
   exact int_eq (by rw [if_neg (by rw [h5];exact Bool.false_ne_true),if_pos hc])
  rename_i h5
  have hfin:(if (O.2 != 0)=true then O.2 else match some f with
   | none=>12
   | some f=>if ((f.m.params.length:Int) != (s.args.length:Int))=true then 16 else if (argsI w.p w.c w.m s.args f.m.params != 0)=true then argsI w.p w.c w.m s.args f.m.params else if (s.x==[])=true then 0 else backI w.p f.m.ret x)=if (argsI w.p w.c w.m s.args f.m.params != 0)=true then argsI w.p w.c w.m s.args f.m.params else if (s.x==[])=true then 0 else backI w.p f.m.ret x:=by rw [if_neg (by rw [h5];exact Bool.false_ne_true)];dsimp only;rw [if_neg (by rw [hc];exact Bool.false_ne_true)]
  dsimp only at hfin ⊢
  rw [hfin]
  have hpl:f.m.params.length=s.args.length:=by have h8:=hc;simp at h8;omega
  clear hfin h5 hc h2 h3
  have hal:s.args.length≤1048576:=by omega
  have haz:=s.arg_sz
  generalize hA:s.args=ax at hpl hal haz
  generalize hB:f.m.params=bs' at hpl
  refine WP.loopX (α:={ k:Nat // k≤ax.length∧argsI w.p w.c w.m ax bs'=argsI w.p w.c w.m (ax.drop k) (bs'.drop k) }) (fun y=>[(3,.a (.ptr 0 0)),(4,.a (.ptr 1 0)),(5,.a (.ptr 2 0)),(9,.a (.ptr 4 0)),(11,.a (.v (.int .i64 (y.1:Nat))))]) (fun y=>[.cell (Pc.at w),.cell (St.at s),.cell (Ty.at x),.cell (Ty.at O.1),.cell (Fd.at f)]) (fun y=>ax.length-y.1) ⟨0,by omega,rfl⟩ (by simp only [Agree,go_sem,simprocAttr];first|done|rfl) rfl ?_
  rintro⟨k,hk,hinv⟩
  dsimp only at hk hinv ⊢
  by_cases hlt:k<ax.length
  ·have hlt2:decide ((k:Int)<((ax.length:Nat):Int))=true:=decide_eq_true (by omega)
   obtain⟨z,hz⟩:∃z,ax[k]? = some z:=⟨_,List.getElem?_eq_getElem hlt⟩
   have hzm:z∈ax:=List.mem_of_getElem? hz
   have hzt:=take_snocA hz
   have hix:∀q2,ixD (some 4) q2 (.a (.sl (ax.map Ex.at))) (.a (.v (.int .i64 (k:Int))))=some (.a (.ref (Ex.at z) 0)):=fun q2=>ixD_at rfl (by rw [List.getElem?_map,hz];rfl) (by simp only [go_sem])
   have hwu:=wrap64n (k:=k) (by omega)
   obtain⟨v,hv⟩:∃v,bs'[k]? = some v:=⟨_,List.getElem?_eq_getElem (by omega)⟩
   have hjx:∀q2,ixD (some 13) q2 (.a (.sl (bs'.map Vr.at))) (.a (.v (.int .i64 (k:Nat))))=some (.a (.ref (Vr.at v) 0)):=fun q2=>ixD_at rfl (by rw [List.getElem?_map,hv];rfl) (by simp only [go_sem])
   have hd1:ax.drop k=z::ax.drop (k+1):=by rw [List.drop_eq_getElem_cons hlt];congr 1;exact (List.getElem?_eq_some_iff.1 hz).2
   have hd2:bs'.drop k=v::bs'.drop (k+1):=by rw [List.drop_eq_getElem_cons (by omega)];congr 1;exact (List.getElem?_eq_some_iff.1 hv).2
   rw [hd1,hd2,argsI] at hinv
   have h7:=pr20Suits w z v.ty h (Nat.le_trans (haz z hzm) hs)
   generalize suitsI w.p w.c w.m z v.ty=S at h7 hinv
   replace fx:=And.intro hA (And.intro hB (And.intro hlt2 (And.intro hix (And.intro hjx (And.intro hwu trivial)))))
   repeat' (first|refine stp [0,1,2,3,4,5,6,8,9,10,11,19,28,36,41,59,63] ?_|(refine RS.sE ?_;refine rnx ?_)|(refine RS.lC ?_;refine rnx ?_)|(refine RS.xC ?_;refine rnx ?_)|(refine stc (r1:=by exact h7) (r2:=?_);refine rnx ?_)|refine WP.cn (fun hc=>?_) (fun hc=>?_)|((first|refine WP.dw (id:=12) 15 [0,1,2,3,4,5,6,8,9,10,11,19,28,36,41,59,63] ?_);simp only [RQr_mk,List.drop_succ_cons,List.drop_zero,List.drop_nil])|fail)
   ·have hS:argsI w.p w.c w.m ax bs'=S:=by rw [hinv,if_pos hc]
    exact int_eq (by rw [hS,if_pos hc])
   ·refine⟨⟨k+1,by omega,by rw [hinv,if_neg (by rw [hc];exact Bool.false_ne_true)]⟩,[],by dsimp only;omega,by simp only [Agree,go_sem,simprocAttr],rfl,by simp only [nrE,nrD,List.all_cons,List.all_nil,go_sem,simprocAttr],by simp only [nrE,nrD,List.all_cons,List.all_nil,go_sem,simprocAttr,Pc.nr,Fd.nr]⟩
  ·obtain rfl:k=ax.length:=by omega
   have hlt2:decide ((ax.length:Int)<(ax.length:Int))=false:=decide_eq_false (by omega)
   rw [List.drop_length] at hinv
   have h0:argsI w.p w.c w.m ax bs'=0:=by rw [hinv];cases bs'.drop ax.length<;>rfl
   rw [h0,if_neg (by decide)]
   replace fx:=And.intro hA (And.intro hlt2 trivial)
   repeat' (first|refine stp [0,1,2,3,4,5,6,8,9,10,11,19,28,36,41,59,63] ?_|(refine RS.sE ?_;refine rnx ?_)|(refine RS.lC ?_;refine rnx ?_)|(refine RS.xC ?_;refine rnx ?_)|(refine stc (r1:=by exact h4) (r2:=?_);refine rnx ?_)|refine WP.cn (fun hc=>?_) (fun hc=>?_)|((first|refine WP.dw (id:=12) 15 [0,1,2,3,4,5,6,8,9,10,11,19,28,36,41,59,63] ?_);simp only [RQr_mk,List.drop_succ_cons,List.drop_zero,List.drop_nil])|fail)
   ·exact int_eq (by rw [if_pos hc])
   ·exact int_eq (by rw [if_neg (by rw [hc];exact Bool.false_ne_true)])
end Go.Proofs.YtibdalkdgjghoaaGreatDoor
namespace Go.Proofs.YtibdalkdgjghoaaGreatDoor
open Go.RowKit
theorem amongM_mem {p:List Cs} {s:List UInt8}:∀{l:List Int} {f:Fd},amongM p s l=some f→∃c∈p,f.m∈c.methods
 | [],_,h=>by cases h
 | i::r,f,h=>by
  rw [amongM] at h
  cases hi:p[i.toNat]? with
  | none=>rw [hi] at h;exact amongM_mem (l:=r) h
  | some c =>
   rw [hi,Option.bind_some] at h
   cases ho:ownM c s with
   | none=>rw [ho] at h;exact amongM_mem (l:=r) h
   | some m =>
    rw [ho] at h
    cases h
    exact⟨c,List.mem_of_getElem? hi,List.mem_of_find?_eq_some ho⟩
theorem calM_len {w:Pc} {s:St} {f:Fd} (hz:sumOf Cs.sz w.p≤1048576) (h:calM w.p w.c w.m s=some f):f.m.params.length≤1048576:=by
 unfold calM at h
 split at h
 ·cases h
 obtain⟨c,hc,hm⟩:=amongM_mem h
 have hcs:c.sz≤1048576:=by have:=sumOf_mem (f:=Cs.sz) hc;omega
 obtain⟨y1,y2,y3,y4,y5,y6,y7,y8,y9⟩:=Cs.szH hcs
 have hms:f.m.sz≤1048576:=by have:=sumOf_mem (f:=Me.sz) hm;omega
 obtain⟨u1,u2,u3,u4,u5,u6⟩:=Me.szH hms
 omega
def docK (p:List Cs) (c:Cs) (m:Me) (s:St) (x:Ty):Int :=
 if (s.kind==4)=true then callI p c m s x else if (s.kind==2||s.kind==3)=true then fieldsI p c m s x else if (s.kind==5||s.kind==6)=true then madeI p c m s x
 else if (s.kind==7)=true then (if ((varT m s.y).2 != 0)=true then (varT m s.y).2 else givesI p (varT m s.y).1 x)
 else if ((oneT c m s.e).2 != 0)=true then (oneT c m s.e).2 else fitsI p (oneT c m s.e).1 x
def docI (p:List Cs) (c:Cs) (m:Me) (s:St):Int :=
 if (!s.rightB (c.params.length:Int))=true then 28 else if decide (s.kind≥8)=true then endsI p c m s
 else if (s.x==[])=true then docK p c m s Ty.zero else if ((varT m s.x).2 != 0)=true then (varT m s.x).2 else docK p c m s (varT m s.x).1
theorem pr20Stmt (w:Pc) (s:St) (h:w.ok) (hs:s.sz≤1048576):DPure Tryz.prog 22 [.r (Pc.at w),.r (St.at s)] (.a (.v (.int .i64 (docI w.p w.c w.m s)))):=by
 have hz:s.e.sz≤1048576:=Nat.le_trans (St.e_sz s) hs
 have k1:=pStRight s (w.c.params.length:Int) hs
 have k2:=pr20ends w s h hz
 have k3:=fun x=>pr20call w s x h hs fun f hf=>calM_len h.z hf
 have k4:=fun x=>pr20fields w s x h hz
 have k5:=fun x=>pr20made w s x h hz
 have k6:=pr20variable w s.x h
 have k7:=pr20variable w s.y h
 have k8:=pr19Of w.c w.m s.e h.c h.a h.b hz
 have hp:=h.p
 have k9:=fun f t=>pr19Gives w.p f t hp
 have ka:=fun f t=>pr19Fits w.p f t hp
 unfold docI docK
 generalize oneT w.c w.m s.e=R at k8 ⊢
 generalize varT w.m s.y=V at k7 ⊢
 generalize varT w.m s.x=X at k6 ⊢
 clear h hs hz hp
 cases hx:(s.x==[]) with
 | false =>
  refine DPure.go Tryz.func22 rfl Tryz.ntmps22 rfl rfl rfl (fun C hro=>?_)
  have fx:=trivial
  replace fx:=And.intro tyZ (And.intro hx trivial)
  repeat' (first|refine stp [0,1,2,3,4,5,6,7,8,9,10,11,18,21,28,37,42,54,66,73,82,100] ?_|(refine RS.sE ?_;refine rnx ?_)|(refine RS.pk ?_;refine rnx ?_)|(refine RS.gF ?_;refine rnx ?_)|(refine RS.lC ?_;refine rnx ?_)|(refine stc (r1:=by first|exact k1|exact k2|exact k3 X.1|exact k4 X.1|exact k5 X.1|exact k6|exact k7|exact k8|exact k9 V.1 X.1|exact ka R.1 X.1) (r2:=?_);refine rnx ?_)|refine WP.cn (fun hc=>?_) (fun hc=>?_)|fail)
  all_goals (refine int_eq ?_;first|(simp only [*,if_true,Bool.false_eq_true,if_false];done)|simp_all)
 | true =>
  refine DPure.go Tryz.func22 rfl Tryz.ntmps22 rfl rfl rfl (fun C hro=>?_)
  have fx:=trivial
  replace fx:=And.intro tyZ (And.intro hx trivial)
  repeat' (first|refine stp [0,1,2,3,4,5,6,7,8,9,10,11,18,21,28,37,42,54,66,73,82,100] ?_|(refine RS.sE ?_;refine rnx ?_)|(refine RS.pk ?_;refine rnx ?_)|(refine RS.gF ?_;refine rnx ?_)|(refine RS.lC ?_;refine rnx ?_)|(refine stc (r1:=by first|exact k1|exact k2|exact k3 Ty.zero|exact k4 Ty.zero|exact k5 Ty.zero|exact k7|exact k8|exact k9 V.1 Ty.zero|exact ka R.1 Ty.zero) (r2:=?_);refine rnx ?_)|refine WP.cn (fun hc=>?_) (fun hc=>?_)|fail)
  all_goals (refine int_eq ?_;first|(simp only [*,if_true,Bool.false_eq_true,if_false];done)|simp_all)
end Go.Proofs.YtibdalkdgjghoaaGreatDoor
