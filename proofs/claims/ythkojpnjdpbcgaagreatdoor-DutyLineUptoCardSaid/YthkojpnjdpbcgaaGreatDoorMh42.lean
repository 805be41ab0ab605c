/- The document's call and statement, on plain data. Conditions: at most 2^20 of anything. -/
import Derived.Test.YthkojpnjdpbcgaaGreatDoorMh38
import Derived.Test.YthkojpnjdpbcgaaGreatDoorMh39
import Derived.Test.YthkojpnjdpbcgaaGreatDoorMh14
import Derived.Test.YthkojpnjdpbcgaaGreatDoorMh22
import Derived.Test.YthkojpnjdpbcgaaGreatDoorMh27
set_option linter.unusedVariables false
set_option maxRecDepth 100000
set_option maxHeartbeats 8000000
set_option linter.unusedSimpArgs false
namespace Go.Proofs.YthkojpnjdpbcgaaGreatDoor
open Go.RowKit
theorem St.arg_sz (s:St):∀e∈s.args,e.sz≤s.sz:=by
 obtain⟨k,x,y,nm,ty,e,ar,bo,el,at_⟩:=s
 intro e1 he
 have h1:∀(l:List Ex) (e1:Ex),e1∈l→e1.sz≤Ex.szs l:=by
  intro l
  induction l with
  | nil=>intro e1 h;cases h
  | cons a r ih =>
   intro e1 h
   rw [Ex.szs]
   rcases List.mem_cons.1 h with rfl|h
   ·omega
   ·have:=ih e1 h;omega
 have:=h1 ar e1 he
 rw [St.sz];omega
def calM (p:List Cs) (c:Cs) (m:Me) (s:St):Option Fd:=if ((objT c m s).2 != 0||s.kind != 4)=true then none else qc0 p (objT c m s).1.cls s.name
def qdx (p:List Cs) (c:Cs) (m:Me):List Ex→List Vr→Int
 | e::r,v::t=>if (qe1 p c m e v.ty != 0)=true then qe1 p c m e v.ty else qdx p c m r t
 | _,_=>0
def qix (p:List Cs) (c:Cs) (m:Me) (s:St) (x:Ty):Int :=
 if ((objT c m s).2 != 0)=true then (objT c m s).2 else match calM p c m s with
  | none=>12
  | some f=>if ((f.m.params.length:Int) != (s.args.length:Int))=true then 16 else if (qdx p c m s.args f.m.params != 0)=true then qdx p c m s.args f.m.params else if (s.x==[])=true then 0 else qnp p f.m.ret x
theorem qjc (w:Pc) (s:St) (h:w.ok):qaa Tryz.prog 74 [.r (Pc.at w),.r (St.at s)] (.t [.r (Fd.at (fdS (calM w.p w.c w.m s)).1),.a (.v (.bool (fdS (calM w.p w.c w.m s)).2))]):=by
 have h2:=qgd w s h
 have h3:=pr17Find w.p (objT w.c w.m s).1.cls s.name h.z
 have zd:=Fd.z0
 unfold calM
 generalize objT w.c w.m s=O at h2 h3 ⊢
 generalize qc0 w.p O.1.cls s.name=Z at h3 ⊢
 refine qaa.go Tryz.func74 rfl Tryz.ntmps74 rfl rfl rfl (fun C hro=>?_)
 have fx:=trivial
 replace fx:=ai15 zd trivial
 repeat' (first|refine stp [0,1,2,3,4,5,6,7,20] ?_|(refine stc (r1:=by first|exact h2|exact h3) (r2:=?_);refine rnx ?_)|refine WP.cn (fun hc=>?_) (fun hc=>?_)|fail)
 ·rw [if_pos hc];rfl
 ·rw [if_neg (by rw [hc];exact Bool.false_ne_true)]
theorem pr20call (w:Pc) (s:St) (x:Ty) (h:w.ok) (hs:s.sz≤1048576) (hq:∀f,calM w.p w.c w.m s=some f→f.m.params.length≤1048576):qaa Tryz.prog 63 [.r (Pc.at w),.r (St.at s),.r (Ty.at x)] (.a (.v (.int .i64 (qix w.p w.c w.m s x)))):=by
 have h2:=qgd w s h
 have h3:=qjc w s h
 have zd:=Fd.z0
 unfold qix
 generalize objT w.c w.m s=O at h2 ⊢
 generalize calM w.p w.c w.m s=Z at h3 hq ⊢
 cases Z with
 | none =>
  dsimp only [fdS] at h3
  refine qaa.go Tryz.func63 rfl Tryz.ntmps63 rfl rfl rfl (fun C hro=>?_)
  have fx:=trivial
  replace fx:=ai15 zd (ai15 tyZ trivial)
  repeat' (first|refine stp [0,1,2,3,4,5,6,8,9,10,11,19,28,36,41,59,63] ?_|(refine stc (r1:=by first|exact h2|exact h3) (r2:=?_);refine rnx ?_)|refine WP.cn (fun hc=>?_) (fun hc=>?_)|fail)
  all_goals (refine qaw ?_;simp only [*,if_true,Bool.false_eq_true,if_false])
 | some f =>
  have h4:=pr20back w f.m.ret x h
  have hql:=hq f rfl
  dsimp only [fdS] at h3
  refine qaa.go Tryz.func63 rfl Tryz.ntmps63 rfl rfl rfl (fun C hro=>?_)
  have fx:=trivial
  replace fx:=ai15 zd (ai15 tyZ trivial)
  repeat' (first|refine stp [0,1,2,3,4,5,6,8,9,10,11,19,28,36,41,59,63] ?_|(refine stc (r1:=by first|exact h2|exact h3) (r2:=?_);refine rnx ?_)|refine WP.cn (fun hc=>?_) (fun hc=>?_)|fail)
  ·exact qaw (by rw [if_pos hc])
  ·rename_i h5
   exact qaw (by rw [if_neg (by rw [h5];exact Bool.false_ne_true),if_pos hc])
  rename_i h5
  have hfin:(if (O.2 != 0)=true then O.2 else match some f with
   | none=>12
   | some f=>if ((f.m.params.length:Int) != (s.args.length:Int))=true then 16 else if (qdx w.p w.c w.m s.args f.m.params != 0)=true then qdx w.p w.c w.m s.args f.m.params else if (s.x==[])=true then 0 else qnp w.p f.m.ret x)=if (qdx w.p w.c w.m s.args f.m.params != 0)=true then qdx w.p w.c w.m s.args f.m.params else if (s.x==[])=true then 0 else qnp w.p f.m.ret x:=by rw [if_neg (by rw [h5];exact Bool.false_ne_true)];dsimp only;rw [if_neg (by rw [hc];exact Bool.false_ne_true)]
  dsimp only at hfin ⊢
  rw [hfin]
  have hpl:f.m.params.length=s.args.length:=by have h8:=hc;simp at h8;omega
  clear hfin h5 hc h2 h3
  have hal:s.args.length≤1048576:=by omega
  have haz:=s.arg_sz
  generalize hA:s.args=ax at hpl hal haz
  generalize hB:f.m.params=bs' at hpl
  refine WP.loopX (α:={ k:Nat // k≤ax.length∧qdx w.p w.c w.m ax bs'=qdx w.p w.c w.m (ax.drop k) (bs'.drop k) }) (fun y=>[(3,.a (.ptr 0 0)),(4,.a (.ptr 1 0)),(5,.a (.ptr 2 0)),(9,.a (.ptr 4 0)),(11,.a (.v (.int .i64 (y.1:Nat))))]) (fun y=>[.cell (Pc.at w),.cell (St.at s),.cell (Ty.at x),.cell (Ty.at O.1),.cell (Fd.at f)]) (fun y=>ax.length-y.1) ⟨0,by omega,rfl⟩ (by simp only [qag,go_sem,simprocAttr];first|done|rfl) rfl ?_
  rintro⟨k,hk,hinv⟩
  dsimp only at hk hinv ⊢
  by_cases hlt:k<ax.length
  ·have hlt2:decide ((k:Int)<((ax.length:Nat):Int))=true:=decide_eq_true (by omega)
   obtain⟨z,hz⟩:∃z,ax[k]? = some z:=⟨_,List.getElem?_eq_getElem hlt⟩
   have hzm:z∈ax:=lm4 hz
   have hzt:=qan hz
   have hix:∀q2,ixD (some 4) q2 (.a (.sl (ax.map Ex.at))) (.a (.v (.int .i64 (k:Int))))=some (.a (.ref (Ex.at z) 0)):=fun q2=>qaq rfl (by rw [List.getElem?_map,hz];rfl) (by simp only [go_sem])
   have hwu:=qap (k:=k) (by omega)
   obtain⟨v,hv⟩:∃v,bs'[k]? = some v:=⟨_,List.getElem?_eq_getElem (by omega)⟩
   have hjx:∀q2,ixD (some 13) q2 (.a (.sl (bs'.map Vr.at))) (.a (.v (.int .i64 (k:Nat))))=some (.a (.ref (Vr.at v) 0)):=fun q2=>qaq rfl (by rw [List.getElem?_map,hv];rfl) (by simp only [go_sem])
   have hd1:ax.drop k=z::ax.drop (k+1):=by rw [List.drop_eq_getElem_cons hlt];congr 1;exact (List.getElem?_eq_some_iff.1 hz).2
   have hd2:bs'.drop k=v::bs'.drop (k+1):=by rw [List.drop_eq_getElem_cons (by omega)];congr 1;exact (List.getElem?_eq_some_iff.1 hv).2
   rw [hd1,hd2,qdx] at hinv
   have h7:=qlu w z v.ty h (Nat.le_trans (haz z hzm) hs)
   generalize qe1 w.p w.c w.m z v.ty=S at h7 hinv
   replace fx:=ai15 hA (ai15 hB (ai15 hlt2 (ai15 hix (ai15 hjx (ai15 hwu trivial)))))
   repeat' (first|refine stp [0,1,2,3,4,5,6,8,9,10,11,19,28,36,41,59,63] ?_|(refine stc (r1:=by exact h7) (r2:=?_);refine rnx ?_)|refine WP.cn (fun hc=>?_) (fun hc=>?_)|((refine WP.dw (id:=12) 15 [0,1,2,3,4,5,6,8,9,10,11,19,28,36,41,59,63] ?_);simp only [qbd,List.drop_succ_cons,List.drop_zero,List.drop_nil])|fail)
   ·have hS:qdx w.p w.c w.m ax bs'=S:=by rw [hinv,if_pos hc]
    exact qaw (by rw [hS,if_pos hc])
   ·refine⟨⟨k+1,by omega,by rw [hinv,if_neg (by rw [hc];exact Bool.false_ne_true)]⟩,[],by dsimp only;omega,by simp only [qag,go_sem,simprocAttr],rfl,by simp only [nrE,nrD,List.all_cons,List.all_nil,go_sem,simprocAttr],by simp only [nrE,nrD,List.all_cons,List.all_nil,go_sem,simprocAttr,Pc.nr,Fd.nr]⟩
  ·obtain rfl:k=ax.length:=by omega
   have hlt2:decide ((ax.length:Int)<(ax.length:Int))=false:=decide_eq_false (by omega)
   rw [List.drop_length] at hinv
   have h0:qdx w.p w.c w.m ax bs'=0:=by rw [hinv];cases bs'.drop ax.length<;>rfl
   rw [h0,if_neg (by decide)]
   replace fx:=ai15 hA (ai15 hlt2 trivial)
   repeat' (first|refine stp [0,1,2,3,4,5,6,8,9,10,11,19,28,36,41,59,63] ?_|(refine stc (r1:=by exact h4) (r2:=?_);refine rnx ?_)|refine WP.cn (fun hc=>?_) (fun hc=>?_)|fail)
   ·exact qaw (by rw [if_pos hc])
   ·exact qaw (by rw [if_neg (by rw [hc];exact Bool.false_ne_true)])
end Go.Proofs.YthkojpnjdpbcgaaGreatDoor
namespace Go.Proofs.YthkojpnjdpbcgaaGreatDoor
open Go.RowKit
theorem qex {p:List Cs} {s:List UInt8}:∀{l:List Int} {f:Fd},qcc p s l=some f→∃c∈p,f.m∈c.methods
 | [],_,h=>by cases h
 | i::r,f,h=>by
  rw [qcc] at h
  cases hi:p[i.toNat]? with
  | none=>rw [hi] at h;exact qex (l:=r) h
  | some c =>
   rw [hi,Option.bind_some] at h
   cases ho:ownM c s with
   | none=>rw [ho] at h;exact qex (l:=r) h
   | some m =>
    rw [ho] at h
    cases h
    exact⟨c,lm4 hi,List.mem_of_find?_eq_some ho⟩
theorem calM_len {w:Pc} {s:St} {f:Fd} (hz:qad Cs.sz w.p≤1048576) (h:calM w.p w.c w.m s=some f):f.m.params.length≤1048576:=by
 unfold calM at h
 split at h
 ·cases h
 obtain⟨c,hc,hm⟩:=qex h
 have hcs:c.sz≤1048576:=by have:=qas (f:=Cs.sz) hc;omega
 obtain⟨y1,y2,y3,y4,y5,y6,y7,y8,y9⟩:=Cs.szH hcs
 have hms:f.m.sz≤1048576:=by have:=qas (f:=Me.sz) hm;omega
 obtain⟨u1,u2,u3,u4,u5,u6⟩:=Me.szH hms
 omega
def docK (p:List Cs) (c:Cs) (m:Me) (s:St) (x:Ty):Int :=
 if (s.kind==4)=true then qix p c m s x else if (s.kind==2||s.kind==3)=true then qff p c m s x else if (s.kind==5||s.kind==6)=true then madeI p c m s x
 else if (s.kind==7)=true then (if ((varT m s.y).2 != 0)=true then (varT m s.y).2 else qej p (varT m s.y).1 x)
 else if ((oneT c m s.e).2 != 0)=true then (oneT c m s.e).2 else qc5 p (oneT c m s.e).1 x
def docI (p:List Cs) (c:Cs) (m:Me) (s:St):Int :=
 if (!s.rightB (c.params.length:Int))=true then 28 else if decide (s.kind≥8)=true then qit p c m s
 else if (s.x==[])=true then docK p c m s Ty.zero else if ((varT m s.x).2 != 0)=true then (varT m s.x).2 else docK p c m s (varT m s.x).1
theorem pr20Stmt (w:Pc) (s:St) (h:w.ok) (hs:s.sz≤1048576):qaa Tryz.prog 24 [.r (Pc.at w),.r (St.at s)] (.a (.v (.int .i64 (docI w.p w.c w.m s)))):=by
 have hz:s.e.sz≤1048576:=Nat.le_trans (St.e_sz s) hs
 have k1:=pStRight s (w.c.params.length:Int) hs
 have k2:=pr20ends w s h hz
 have k3:=fun x=>pr20call w s x h hs fun f hf=>calM_len h.z hf
 have k4:=fun x=>qpc w s x h hz
 have k5:=fun x=>pr20made w s x h hz
 have k6:=qeb w s.x h
 have k7:=qeb w s.y h
 have k8:=qjd w.c w.m s.e h.c h.a h.b hz
 have hp:=h.p
 have k9:=fun f t=>qhs w.p f t hp
 have ka:=fun f t=>qeo w.p f t hp
 unfold docI docK
 generalize oneT w.c w.m s.e=R at k8 ⊢
 generalize varT w.m s.y=V at k7 ⊢
 generalize varT w.m s.x=X at k6 ⊢
 clear h hs hz hp
 cases hx:(s.x==[]) with
 | false =>
  refine qaa.go Tryz.func24 rfl Tryz.ntmps24 rfl rfl rfl (fun C hro=>?_)
  have fx:=trivial
  replace fx:=ai15 tyZ (ai15 hx trivial)
  repeat' (first|refine stp [0,1,2,3,4,5,6,7,8,9,10,11,18,21,28,37,42,54,66,73,82,100] ?_|(refine stc (r1:=by first|exact k1|exact k2|exact k3 X.1|exact k4 X.1|exact k5 X.1|exact k6|exact k7|exact k8|exact k9 V.1 X.1|exact ka R.1 X.1) (r2:=?_);refine rnx ?_)|refine WP.cn (fun hc=>?_) (fun hc=>?_)|fail)
  all_goals (refine qaw ?_;first|(simp only [*,if_true,Bool.false_eq_true,if_false];done)|simp_all)
 | true =>
  refine qaa.go Tryz.func24 rfl Tryz.ntmps24 rfl rfl rfl (fun C hro=>?_)
  have fx:=trivial
  replace fx:=ai15 tyZ (ai15 hx trivial)
  repeat' (first|refine stp [0,1,2,3,4,5,6,7,8,9,10,11,18,21,28,37,42,54,66,73,82,100] ?_|(refine stc (r1:=by first|exact k1|exact k2|exact k3 Ty.zero|exact k4 Ty.zero|exact k5 Ty.zero|exact k7|exact k8|exact k9 V.1 Ty.zero|exact ka R.1 Ty.zero) (r2:=?_);refine rnx ?_)|refine WP.cn (fun hc=>?_) (fun hc=>?_)|fail)
  all_goals (refine qaw ?_;first|(simp only [*,if_true,Bool.false_eq_true,if_false];done)|simp_all)
end Go.Proofs.YthkojpnjdpbcgaaGreatDoor
namespace Go.Proofs.YthkojpnjdpbcgaaGreatDoor
open Go.RowKit
end Go.Proofs.YthkojpnjdpbcgaaGreatDoor
namespace Go.Proofs.YthkojpnjdpbcgaaGreatDoor
open Go.RowKit
end Go.Proofs.YthkojpnjdpbcgaaGreatDoor
