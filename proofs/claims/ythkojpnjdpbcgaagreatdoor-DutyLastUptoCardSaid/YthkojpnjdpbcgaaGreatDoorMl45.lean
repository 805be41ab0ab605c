/- Where the laws of chapter 20 look, on plain data. Conditions: at most 2^20 of anything. -/
import Derived.Test.YthkojpnjdpbcgaaGreatDoorMl44
import Derived.Test.YthkojpnjdpbcgaaGreatDoorMl5
import Derived.Test.YthkojpnjdpbcgaaGreatDoorMl39
import Derived.Test.YthkojpnjdpbcgaaGreatDoorMl22
import Derived.Test.YthkojpnjdpbcgaaGreatDoorMl42
import Derived.Test.YthkojpnjdpbcgaaGreatDoorMl36
set_option linter.unusedVariables false
set_option maxRecDepth 100000
set_option maxHeartbeats 8000000
set_option linter.unusedSimpArgs false
namespace Go.Proofs.YthkojpnjdpbcgaaGreatDoor
open Go.RowKit
theorem ak_ok {p:List Cs} {c:Cs} {m:Me} (hp:qaf Cs.sz p≤1048576) (hc:c∈p) (hm:m∈c.methods) (s:St) (h:s.sz≤1048576) (x o:Ty):Ak.ok ⟨p,c,m,s,x,o⟩:=by
 have hl:=qav Cs.sz_pos p
 have hcs:c.sz≤1048576:=by have:=qau (f:=Cs.sz) hc;omega
 obtain⟨y1,y2,y3,y4,y5,y6,y7,y8,y9⟩:=Cs.szH hcs
 have hms:m.sz≤1048576:=by have:=qau (f:=Me.sz) hm;omega
 obtain⟨u1,u2,u3,u4,u5,u6⟩:=Me.szH hms
 exact⟨by dsimp only;omega,y3,by dsimp only;omega,by dsimp only;omega,h⟩
def obI (a:Ak):Int×Ak:=if (!(qak a.c a.m a.s.y).2)=true then (13,a) else ((if ((qak a.c a.m a.s.y).1.kind != 2)=true then 14 else if (a.s.kind==4)=true then 0 else if qan (qak a.c a.m a.s.y).1=true then 22 else 0),{ a with o:=(qak a.c a.m a.s.y).1 })
theorem qe9 (a:Ak) (h:a.ok):DM Tryz.prog 101 [.a (.ptr 0 0)] [.cell (Ak.at a)] (.a (.v (.int .i64 (obI a).1))) [.cell (Ak.at (obI a).2)]:=by
 have h1:=pType a.c a.m a.s.y h.nc h.na h.nl
 unfold obI
 generalize qak a.c a.m a.s.y=R at h1 ⊢
 have hU:=qbd R.1
 cases hk:(a.s.kind==4) with
 | true =>
  refine DM.intro Tryz.func101 rfl Tryz.ntmps101 rfl rfl rfl (by simp only [go_sem,simprocAttr]) (fun V0 Kb Nx=>?_)
  have fx:=trivial
  replace fx:=ai15 tyZ (ai15 hk trivial)
  repeat' (first|(refine RWL.fin ?_;try simp only [qab,qac])|refine stp [0,2,3,4,23,30] ?_|(refine RS.pk ?_;refine rnx ?_)|(refine RS.gF ?_;refine rnx ?_)|refine RWL.fr ?_|refine RWL.wt ?_|(refine stc (r1:=by first|exact h1|exact qf6 true 22) (r2:=?_);refine rnx ?_)|(refine' WP.dl (id:=1) [0,1,3,7,0,16,48,112,0,256,768,1792,3840,8191,16383,32767,32767,0,196607,524287] [0,2,3,4,23,30] [17,18] [(17,_),(18,_)] ?_)|refine RWL.re ?_ ?_|refine RdO.oz|refine RdO.oe ?_|refine WP.cn (fun hc=>?_) (fun hc=>?_)|fail)
  all_goals (simp only [*,if_true,if_false,Bool.false_eq_true];exact qar ⟨rfl,_,rfl⟩)
 | false =>
  cases hu:qan R.1 with
  | true =>
   rw [hu] at hU
   refine DM.intro Tryz.func101 rfl Tryz.ntmps101 rfl rfl rfl (by simp only [go_sem,simprocAttr]) (fun V0 Kb Nx=>?_)
   have fx:=trivial
   replace fx:=ai15 tyZ (ai15 hk trivial)
   repeat' (first|(refine RWL.fin ?_;try simp only [qab,qac])|refine stp [0,2,3,4,23,30] ?_|refine RWL.fr ?_|refine RWL.wt ?_|(refine stc (r1:=by first|exact h1|exact hU|exact qf6 false 22) (r2:=?_);refine rnx ?_)|(refine' WP.dl (id:=1) [0,1,3,7,0,16,48,112,0,256,768,1792,3840,8191,16383,32767,32767,0,196607,524287] [0,2,3,4,23,30] [17,18] [(17,_),(18,_)] ?_)|refine RWL.re ?_ ?_|refine RdO.oz|refine RdO.oe ?_|refine WP.cn (fun hc=>?_) (fun hc=>?_)|fail)
   all_goals (simp only [*,if_true,if_false,Bool.false_eq_true];exact qar ⟨rfl,_,rfl⟩)
  | false =>
   rw [hu] at hU
   refine DM.intro Tryz.func101 rfl Tryz.ntmps101 rfl rfl rfl (by simp only [go_sem,simprocAttr]) (fun V0 Kb Nx=>?_)
   have fx:=trivial
   replace fx:=ai15 tyZ (ai15 hk trivial)
   repeat' (first|(refine RWL.fin ?_;try simp only [qab,qac])|refine stp [0,2,3,4,23,30] ?_|refine RWL.fr ?_|refine RWL.wt ?_|(refine stc (r1:=by first|exact h1|exact hU|exact qf6 true 22) (r2:=?_);refine rnx ?_)|(refine' WP.dl (id:=1) [0,1,3,7,0,16,48,112,0,256,768,1792,3840,8191,16383,32767,32767,0,196607,524287] [0,2,3,4,23,30] [17,18] [(17,_),(18,_)] ?_)|refine RWL.re ?_ ?_|refine RdO.oz|refine RdO.oe ?_|refine WP.cn (fun hc=>?_) (fun hc=>?_)|fail)
   all_goals (simp only [*,if_true,if_false,Bool.false_eq_true];exact qar ⟨rfl,_,rfl⟩)
theorem qfb (a:Ak):(obI a).2.p=a.p∧(obI a).2.c=a.c∧(obI a).2.m=a.m∧(obI a).2.s=a.s∧(obI a).2.x=a.x:=by
 unfold obI;split<;>exact⟨rfl,rfl,rfl,rfl,rfl⟩
def calP (p:List Cs) (a:Ak):Option Fd:=if (a.s.kind != 4||(obI a).1 != 0)=true then none else qd6 p (obI a).2.o.cls a.s.name
theorem pgCallee (p:List Cs) (c:Cs) (m:Me) (s:St) (h:Ak.ok ⟨p,c,m,s,Ty.zero,Ty.zero⟩) (hzz:qaf Cs.sz p≤1048576):qaa Tryz.prog 121 [.a (.sl (p.map Cs.at)),.r (Cs.at c),.r (Me.at m),.r (St.at s)] (.t [.r (Fd.at (fdS (calP p ⟨p,c,m,s,Ty.zero,Ty.zero⟩)).1),.a (.v (.bool (fdS (calP p ⟨p,c,m,s,Ty.zero,Ty.zero⟩)).2))]):=by
 have hob:=qe9 _ h
 have zd:=Fd.z0
 have haz:=Ak.z0
 unfold calP
 dsimp only
 generalize obI ⟨p,c,m,s,Ty.zero,Ty.zero⟩=O at hob ⊢
 have hfi:=pmFind p O.2.o.cls s.name hzz
 generalize qd6 p O.2.o.cls s.name=Z at hfi ⊢
 cases hk:(s.kind != 4) with
 | true =>
  refine qaa.go Tryz.func121 rfl Tryz.ntmps121 rfl rfl rfl (fun C hro=>?_)
  have fx:=trivial
  replace fx:=ai15 zd (ai15 haz (ai15 hk trivial))
  repeat' (first|refine stp [0,1,2,3,5,6,7,8,9,10,24] ?_|(refine RS.pk ?_;refine rnx ?_)|(refine RS.gF ?_;refine rnx ?_)|fail)
  rw [Bool.true_or,if_pos rfl];rfl
 | false =>
  refine qaa.go Tryz.func121 rfl Tryz.ntmps121 rfl rfl rfl (fun C hro=>?_)
  have fx:=trivial
  replace fx:=ai15 zd (ai15 haz (ai15 hk trivial))
  repeat' (first|refine stp [0,1,2,3,5,6,7,8,9,10,24] ?_|fail)
  refine RS.gM [4] (hp:=by exact hob) (h:=?_)
  refine RS.rn ?_;simp only [qai]
  replace fx:=ai15 zd (ai15 haz (ai15 hk trivial))
  repeat' (first|refine stp [0,1,2,3,5,6,7,8,9,10,24] ?_|(refine stc (r1:=by exact hfi) (r2:=?_);refine rnx ?_)|refine WP.cn (fun hc=>?_) (fun hc=>?_)|((refine WP.dw (id:=4) 11 [0,1,2,3,5,6,7,8,9,10,24] ?_);simp only [qbh,List.drop_succ_cons,List.drop_zero,List.drop_nil])|fail)
  ·rw [Bool.false_or,if_pos hc];rfl
  ·rw [Bool.false_or,if_neg (by rw [hc];exact Bool.false_ne_true)]
theorem qke {α:Type} {f g:α→Nat} (h:∀x,f x≤g x):∀l:List α,qaf f l≤qaf g l
 | []=>Nat.le_refl _
 | x::r=>by rw [qaf,qaf];have:=h x;have:=qke h r;omega
theorem pc_ok {p:List Cs} {c:Cs} {m:Me} (hp:qaf Cs.sz p≤1048576) (hc:c∈p) (hm:m∈c.methods):Pc.ok ⟨p,c,m⟩:=by
 have h:=ak_ok hp hc hm ⟨1,[],[],[],Ty.zero,⟨1,7,[],[]⟩,[],[],[],0⟩ (by decide) Ty.zero Ty.zero
 refine⟨h.np,h.nc,h.na,h.nl,Nat.le_trans (qke (fun x=>?_) p) hp,hp⟩
 have:=qav Vr.sz_pos x.fields
 unfold Cs.sz;omega
theorem cal_eq (p:List Cs) (c:Cs) (m:Me) (s:St):calP p ⟨p,c,m,s,Ty.zero,Ty.zero⟩=calM p c m s:=by
 unfold calP calM obI objT
 dsimp only
 generalize qak c m s.y=R
 cases h4:(s.kind==4)<;>cases h1:R.2<;>cases h2:(R.1.kind==2)<;>cases h3:qan R.1<;>simp_all
def backP (a:Ak) (r:Ty):Int:=if (a.s.x==[])=true then 0 else if (r.kind==0)=true then 14 else if qan a.x=true then qfe a.p r a.x else if qan r=true then 22 else qc2 a.p r a.x
def qn3 (a:Ak):Int:=if (a.x.kind != 2)=true then 14 else if (!(qan a.x==qan a.s.ty))=true then 22 else if (!qcd a.p a.s.ty.cls a.x.cls)=true then 15 else 0
theorem pgBack (a:Ak) (r:Ty) (h:a.ok):DM Tryz.prog 161 [.a (.ptr 0 0),.r (Ty.at r)] [.cell (Ak.at a)] (.a (.v (.int .i64 (backP a r)))) [.cell (Ak.at a)]:=by
 have hp:=h.np
 unfold backP
 refine DM.intro Tryz.func161 rfl Tryz.ntmps161 rfl rfl rfl (by simp only [go_sem,simprocAttr]) (fun V0 Kb Nx=>?_)
 have fx:=trivial
 repeat' (first|refine stp [0,1,3,4,5,12,16,32] ?_|(refine stc (r1:=by first|exact qbd r|exact qbd a.x|exact pGives a.p r a.x hp|exact pFits a.p r a.x hp) (r2:=?_);refine rnx ?_)|refine WP.cn (fun hc=>?_) (fun hc=>?_)|((first|refine WP.dw (id:=6) 11 [0,1,3,4,5,12,16,32] ?_|refine WP.dw (id:=9) 11 [0,1,3,4,5,12,16,32] ?_);simp only [qbh,List.drop_succ_cons,List.drop_zero,List.drop_nil])|fail)
 all_goals (refine qar ⟨congrArg (fun z:Int=>D.a (.v (.int .i64 z))) ?_,_,rfl⟩;simp only [*,if_true,Bool.false_eq_true,if_false])
theorem pgMade (a:Ak) (h:a.ok):DM Tryz.prog 104 [.a (.ptr 0 0)] [.cell (Ak.at a)] (.a (.v (.int .i64 (qn3 a)))) [.cell (Ak.at a)]:=by
 have hp:=h.np
 unfold qn3
 cases hb:qcd a.p a.s.ty.cls a.x.cls with
 | true =>
  have hB:=qm4 a.p a.s.ty.cls a.x.cls hp
  rw [hb] at hB
  refine DM.intro Tryz.func104 rfl Tryz.ntmps104 rfl rfl rfl (by simp only [go_sem,simprocAttr]) (fun V0 Kb Nx=>?_)
  have fx:=trivial
  replace fx:=ai15 tyZ trivial
  repeat' (first|refine stp [0,2,3,9,16] ?_|(refine stc (r1:=by first|exact qbd a.s.ty|exact qbd a.x|exact hB|exact qf6 true 15) (r2:=?_);refine rnx ?_)|refine WP.cn (fun hc=>?_) (fun hc=>?_)|((first|refine WP.dw (id:=4) 9 [0,2,3,9,16] ?_|refine WP.dw (id:=6) 14 [0,2,3,9,16] ?_);simp only [qbh,List.drop_succ_cons,List.drop_zero,List.drop_nil])|fail)
  all_goals (refine qar ⟨congrArg (fun z:Int=>D.a (.v (.int .i64 z))) ?_,_,rfl⟩;simp only [*,if_true,Bool.false_eq_true,if_false,Bool.not_true])
 | false =>
  have hB:=qm4 a.p a.s.ty.cls a.x.cls hp
  rw [hb] at hB
  refine DM.intro Tryz.func104 rfl Tryz.ntmps104 rfl rfl rfl (by simp only [go_sem,simprocAttr]) (fun V0 Kb Nx=>?_)
  have fx:=trivial
  replace fx:=ai15 tyZ trivial
  repeat' (first|refine stp [0,2,3,9,16] ?_|(refine stc (r1:=by first|exact qbd a.s.ty|exact qbd a.x|exact hB|exact qf6 false 15) (r2:=?_);refine rnx ?_)|refine WP.cn (fun hc=>?_) (fun hc=>?_)|((first|refine WP.dw (id:=4) 9 [0,2,3,9,16] ?_|refine WP.dw (id:=6) 14 [0,2,3,9,16] ?_);simp only [qbh,List.drop_succ_cons,List.drop_zero,List.drop_nil])|fail)
  all_goals (refine qar ⟨congrArg (fun z:Int=>D.a (.v (.int .i64 z))) ?_,_,rfl⟩;simp only [*,if_true,Bool.false_eq_true,if_false,Bool.not_false])
theorem pgCast2 (t:Ty):DM Tryz.prog 164 [.a (.ptr 0 0)] [.cell (Ty.at t)] (.a (.v (.int .i64 (bif (t.kind==2||t.kind==3) then 0 else 14)))) [.cell (Ty.at t)]:=by
 refine DM.intro Tryz.func164 rfl Tryz.ntmps164 rfl rfl rfl (by simp only [go_sem,simprocAttr]) (fun V0 Kb Nx=>?_)
 have fx:=trivial
 repeat' (first|refine stp [0,1] ?_|(refine stc (r1:=by exact qf6 (t.kind==2||t.kind==3) 14) (r2:=?_);refine rnx ?_)|fail)
 exact qar ⟨rfl,_,rfl⟩
theorem pgCast3 (t:Ty):DM Tryz.prog 165 [.a (.ptr 0 0)] [.cell (Ty.at t)] (.a (.v (.int .i64 (bif !qan t then 0 else 22)))) [.cell (Ty.at t)]:=by
 refine DM.intro Tryz.func165 rfl Tryz.ntmps165 rfl rfl rfl (by simp only [go_sem,simprocAttr]) (fun V0 Kb Nx=>?_)
 have fx:=trivial
 repeat' (first|refine stp [0,1] ?_|(refine stc (r1:=by first|exact qbd t|exact qf6 (!qan t) 22) (r2:=?_);refine rnx ?_)|fail)
 exact qar ⟨rfl,_,rfl⟩
def qh2 (a:Ak):Int:=match qd6 a.p a.o.cls a.s.name with
 | none=>12
 | some f=>if ((f.m.params.length:Int) != (a.s.args.length:Int))=true then 16 else if (qh4 a.p a.c a.m a.s.args f.m.params != 0)=true then qh4 a.p a.c a.m a.s.args f.m.params else backP a f.m.ret
theorem pgCall (a:Ak) (h:a.ok) (hzz:qaf Cs.sz a.p≤1048576):DM Tryz.prog 103 [.a (.ptr 0 0)] [.cell (Ak.at a)] (.a (.v (.int .i64 (qh2 a)))) [.cell (Ak.at a)]:=by
 have h3:=pmFind a.p a.o.cls a.s.name hzz
 have zd:=Fd.z0
 have hfl:∀f,qd6 a.p a.o.cls a.s.name=some f→f.m.params.length≤1048576:=fun f hf=>by
  obtain⟨c,hc,hm⟩:=qfy hf
  have hcs:c.sz≤1048576:=by have:=qau (f:=Cs.sz) hc;omega
  obtain⟨y1,y2,y3,y4,y5,y6,y7,y8,y9⟩:=Cs.szH hcs
  have hms:f.m.sz≤1048576:=by have:=qau (f:=Me.sz) hm;omega
  obtain⟨u1,u2,u3,u4,u5,u6⟩:=Me.szH hms
  omega
 unfold qh2
 generalize qd6 a.p a.o.cls a.s.name=Z at h3 hfl ⊢
 cases Z with
 | none =>
  dsimp only [fdS] at h3
  refine DM.intro Tryz.func103 rfl Tryz.ntmps103 rfl rfl rfl (by simp only [go_sem,simprocAttr]) (fun V0 Kb Nx=>?_)
  have fx:=trivial
  replace fx:=ai15 zd trivial
  repeat' (first|(refine RWL.fin ?_;try simp only [qab,qac])|refine stp [0,2,3,4,5,6,7,27,38,43,44,45,46,72] ?_|refine RWL.fr ?_|refine RWL.wt ?_|(refine stc (r1:=by exact h3) (r2:=?_);refine rnx ?_)|(refine' WP.dl (id:=1) [0,1,3,7,0,16,48,112,240,0,512,1536,3584,7680,16383,32767,65535,65535,0,393215,1048575] [0,2,3,4,5,6,7,27,38,43,44,45,46,72] [18,19] [(18,_),(19,_)] ?_)|refine RWL.re ?_ ?_|refine RdO.oz|refine RdO.oe ?_|fail)
  exact qar ⟨rfl,_,rfl⟩
 | some f =>
  have h4:=pgBack a f.m.ret h
  have hql:=hfl f rfl
  dsimp only [fdS] at h3
  refine DM.intro Tryz.func103 rfl Tryz.ntmps103 rfl rfl rfl (by simp only [go_sem,simprocAttr]) (fun V0 Kb Nx=>?_)
  have fx:=trivial
  replace fx:=ai15 zd trivial
  repeat' (first|(refine RWL.fin ?_;try simp only [qab,qac])|refine stp [0,2,3,4,5,6,7,27,38,43,44,45,46,72] ?_|refine RWL.fr ?_|refine RWL.wt ?_|(refine stc (r1:=by exact h3) (r2:=?_);refine rnx ?_)|(refine' WP.dl (id:=1) [0,1,3,7,0,16,48,112,240,0,512,1536,3584,7680,16383,32767,65535,65535,0,393215,1048575] [0,2,3,4,5,6,7,27,38,43,44,45,46,72] [18,19] [(18,_),(19,_)] ?_)|refine RWL.re ?_ ?_|refine RdO.oz|refine RdO.oe ?_|refine WP.cn (fun hc=>?_) (fun hc=>?_)|((refine WP.dw (id:=4) 11 [0,2,3,4,5,6,7,27,38,43,44,45,46,72] ?_);simp only [qbh,List.drop_succ_cons,List.drop_zero,List.drop_nil])|fail)
  ·refine qar ⟨congrArg (fun z:Int=>D.a (.v (.int .i64 z))) ?_,_,rfl⟩
   rw [if_pos hc]
  rw [if_neg (by rw [hc];exact Bool.false_ne_true)]
  have hpl:f.m.params.length=a.s.args.length:=by have h8:=hc;simp at h8;omega
  have haz:=a.s.arg_sz
  have hnz:=h.nz
  have hpp:=h.np
  have hcc:=h.nc
  have haa:=h.na
  have hbb:=h.nl
  clear hc h3
  have hal:a.s.args.length≤1048576:=by omega
  generalize hA:a.s.args=ax at hpl hal haz
  generalize hB:f.m.params=bx at hpl
  refine WP.loopX (α:={ k:Nat // k≤ax.length∧qh4 a.p a.c a.m ax bx=qh4 a.p a.c a.m (ax.drop k) (bx.drop k) }) (fun y=>[(0,.a (.ptr 0 0)),(3,.a (.ptr 1 0)),(43,.a (.sl (ax.map Ex.at))),(44,.a (.v (.int .i64 (ax.length:Nat)))),(45,.a (.v (.int .i64 (y.1:Nat))))]) (fun y=>[.cell (Ak.at a),.cell (Fd.at f)]) (fun y=>ax.length-y.1) ⟨0,by omega,rfl⟩ (by simp only [qal,hA,go_sem,simprocAttr];first|done|rfl) rfl ?_
  rintro⟨k,hk,hinv⟩
  dsimp only at hk hinv ⊢
  by_cases hlt:k<ax.length
  ·have hlt2:decide ((k:Int)<((ax.length:Nat):Int))=true:=decide_eq_true (by omega)
   obtain⟨z,hz⟩:∃z,ax[k]? = some z:=⟨_,List.getElem?_eq_getElem hlt⟩
   have hzm:z∈ax:=lm4 hz
   have hzt:=qao hz
   have hix:∀q2,ixD (some 4) q2 (.a (.sl (ax.map Ex.at))) (.a (.v (.int .i64 (k:Int))))=some (.a (.ref (Ex.at z) 0)):=fun q2=>qaq rfl (by rw [List.getElem?_map,hz];rfl) (by simp only [go_sem])
   have hwu:=qap (k:=k) (by omega)
   obtain⟨v,hv⟩:∃v,bx[k]? = some v:=⟨_,List.getElem?_eq_getElem (by omega)⟩
   have hjx:∀q2,ixD (some 13) q2 (.a (.sl (bx.map Vr.at))) (.a (.v (.int .i64 (k:Nat))))=some (.a (.ref (Vr.at v) 0)):=fun q2=>qaq rfl (by rw [List.getElem?_map,hv];rfl) (by simp only [go_sem])
   have hd1:ax.drop k=z::ax.drop (k+1):=by rw [List.drop_eq_getElem_cons hlt];congr 1;exact (List.getElem?_eq_some_iff.1 hz).2
   have hd2:bx.drop k=v::bx.drop (k+1):=by rw [List.drop_eq_getElem_cons (by omega)];congr 1;exact (List.getElem?_eq_some_iff.1 hv).2
   rw [hd1,hd2,qh4] at hinv
   have h7:=pgSuits a.p a.c a.m z v.ty hpp hcc haa hbb (Nat.le_trans (haz z hzm) hnz)
   generalize qgr a.p a.c a.m z v.ty=S at h7 hinv
   replace fx:=ai15 hA (ai15 hB (ai15 hlt2 (ai15 hix (ai15 hjx (ai15 hwu trivial)))))
   repeat' (first|refine stp [0,2,3,4,5,6,7,27,38,43,44,45,46,72] ?_|(refine stc (r1:=by exact h7) (r2:=?_);refine rnx ?_)|refine WP.cn (fun hc=>?_) (fun hc=>?_)|((refine WP.dw (id:=9) 22 [0,2,3,4,5,6,7,27,38,43,44,45,46,72] ?_);simp only [qbh,List.drop_succ_cons,List.drop_zero,List.drop_nil])|fail)
   ·have hS:qh4 a.p a.c a.m ax bx=S:=by rw [hinv,if_pos hc]
    refine qar ⟨congrArg (fun z:Int=>D.a (.v (.int .i64 z))) ?_,_,rfl⟩
    rw [hS,if_pos hc]
   ·refine⟨⟨k+1,by omega,by rw [hinv,if_neg (by rw [hc];exact Bool.false_ne_true)]⟩,_,by dsimp only;omega,by simp only [qal,go_sem,simprocAttr],rfl,by simp only [nrE,nrD,List.all_cons,List.all_nil,go_sem,simprocAttr],by simp only [nrE,nrD,List.all_cons,List.all_nil,go_sem,simprocAttr,Ak.nr,Fd.nr]⟩
  ·obtain rfl:k=ax.length:=by omega
   have hlt2:decide ((ax.length:Int)<(ax.length:Int))=false:=decide_eq_false (by omega)
   rw [List.drop_length] at hinv
   have h0:qh4 a.p a.c a.m ax bx=0:=by rw [hinv];cases bx.drop ax.length<;>rfl
   rw [h0,if_neg (by decide)]
   replace fx:=ai15 hA (ai15 hlt2 trivial)
   repeat' (first|refine stp [0,2,3,4,5,6,7,27,38,43,44,45,46,72] ?_|(refine RS.cM [0] (hp:=by exact h4) (h:=?_);refine rnx ?_)|fail)
   exact qar ⟨rfl,_,rfl⟩
theorem pgAsk1 (a:Ak) (t:Ty) (h:a.ok):DM Tryz.prog 107 [.a (.ptr 2 0),.a (.ptr 1 0)] [.cell (Ak.at a),.cell (Ty.at t),.cell [.ptr 0 0]] (.a (.v (.int .i64 (qfe a.p t a.x)))) [.cell (Ak.at a),.cell (Ty.at t),.cell [.ptr 0 0]]:=by
 refine DM.intro Tryz.func107 rfl Tryz.ntmps107 rfl rfl rfl (by simp only [go_sem,simprocAttr]) (fun V0 Kb Nx=>?_)
 have fx:=trivial
 repeat' (first|refine stp [0,1,2] ?_|(refine stc (r1:=by exact pGives a.p t a.x h.np) (r2:=?_);refine rnx ?_)|((refine WP.dw (id:=1) 11 [0,1,2] ?_);simp only [qbh,List.drop_succ_cons,List.drop_zero,List.drop_nil])|fail)
 exact qar ⟨rfl,_,rfl⟩
theorem pgCast1 (a:Ak):DM Tryz.prog 163 [.a (.ptr 1 0)] [.cell (Ak.at a),.cell [.ptr 0 0]] (.a (.v (.int .i64 (bif !qan a.s.ty then 0 else 22)))) [.cell (Ak.at a),.cell [.ptr 0 0]]:=by
 refine DM.intro Tryz.func163 rfl Tryz.ntmps163 rfl rfl rfl (by simp only [go_sem,simprocAttr]) (fun V0 Kb Nx=>?_)
 have fx:=trivial
 repeat' (first|refine stp [0,1] ?_|(refine stc (r1:=by first|exact qbd a.s.ty|exact qf6 (!qan a.s.ty) 22) (r2:=?_);refine rnx ?_)|fail)
 exact qar ⟨rfl,_,rfl⟩
theorem pgFitsS (a:Ak):DM Tryz.prog 100 [.a (.ptr 0 0),.a (.ptr 0 29),.a (.ptr 0 48)] [.cell (Ak.at a)] (.a (.fn 156 [.ptr 1 0,.ptr 2 0,.ptr 3 0])) [.cell (Ak.at a),.cell [.ptr 0 0],.cell [.ptr 0 29],.cell [.ptr 0 48]]:=by
 refine DM.intro Tryz.func100 rfl Tryz.ntmps100 rfl rfl rfl (by simp only [go_sem,simprocAttr]) (fun V0 Kb Nx=>?_)
 have fx:=trivial
 repeat' (first|refine stp [0,1,2,3,4,5,6] ?_|fail)
 exact qar ⟨rfl,[],rfl⟩
theorem pgFitsS1 (a:Ak) (h:a.ok):DM Tryz.prog 156 [.a (.ptr 1 0),.a (.ptr 2 0),.a (.ptr 3 0)] [.cell (Ak.at a),.cell [.ptr 0 0],.cell [.ptr 0 29],.cell [.ptr 0 48]] (.a (.v (.int .i64 (qc2 a.p a.s.ty a.x)))) [.cell (Ak.at a),.cell [.ptr 0 0],.cell [.ptr 0 29],.cell [.ptr 0 48]]:=by
 refine DM.intro Tryz.func156 rfl Tryz.ntmps156 rfl rfl rfl (by simp only [go_sem,simprocAttr]) (fun V0 Kb Nx=>?_)
 have fx:=trivial
 repeat' (first|refine stp [0,1,2,3] ?_|(refine stc (r1:=by exact pFits a.p a.s.ty a.x h.np) (r2:=?_);refine rnx ?_)|((refine WP.dw (id:=1) 12 [0,1,2,3] ?_);simp only [qbh,List.drop_succ_cons,List.drop_zero,List.drop_nil])|fail)
 exact qar ⟨rfl,_,rfl⟩
def qj0 (a:Ak):Int×Ty:=if qan a.s.ty=true then (22,Ty.zero) else if ((oneT a.c a.m a.s.e).2 != 0)=true then ((oneT a.c a.m a.s.e).2,(oneT a.c a.m a.s.e).1) else if (!((oneT a.c a.m a.s.e).1.kind==2||(oneT a.c a.m a.s.e).1.kind==3))=true then (14,(oneT a.c a.m a.s.e).1) else if qan (oneT a.c a.m a.s.e).1=true then (22,(oneT a.c a.m a.s.e).1) else (qc2 a.p a.s.ty a.x,(oneT a.c a.m a.s.e).1)
theorem allCast (a:Ak) (h:a.ok):DM Tryz.prog 97 [.a (.cs 8 0 5)] [.cell (Ak.at a),.cell [.ptr 0 0],.cell (Ty.at Ty.zero),.cell [.ptr 0 0],.cell [.ptr 2 0],.cell [.ptr 0 0],.cell [.ptr 0 29],.cell [.ptr 0 48],.cell [.fn 163 [.ptr 1 0],.fn 155 [.ptr 3 0,.ptr 4 0],.fn 164 [.ptr 2 0],.fn 165 [.ptr 2 0],.fn 156 [.ptr 5 0,.ptr 6 0,.ptr 7 0]]] (.a (.v (.int .i64 (qj0 a).1)))
  [.cell (Ak.at a),.cell [.ptr 0 0],.cell (Ty.at (qj0 a).2),.cell [.ptr 0 0],.cell [.ptr 2 0],.cell [.ptr 0 0],.cell [.ptr 0 29],.cell [.ptr 0 48],.cell [.fn 163 [.ptr 1 0],.fn 155 [.ptr 3 0,.ptr 4 0],.fn 164 [.ptr 2 0],.fn 165 [.ptr 2 0],.fn 156 [.ptr 5 0,.ptr 6 0,.ptr 7 0]]]:=by
 have h1':=pgCast1 a
 have h2':=qgf a Ty.zero h
 have h5':=pgFitsS1 a h
 refine pAll 8 [.fn 163 [.ptr 1 0],.fn 155 [.ptr 3 0,.ptr 4 0],.fn 164 [.ptr 2 0],.fn 165 [.ptr 2 0],.fn 156 [.ptr 5 0,.ptr 6 0,.ptr 7 0]] _ _ _ (by decide) rfl rfl (by simp only [go_sem,simprocAttr]) ?_
 unfold qj0
 generalize oneT a.c a.m a.s.e=R at h2' ⊢
 have h3':=pgCast2 R.1
 have h4':=pgCast3 R.1
 refine .one rfl (DM.lift [0,1] h1') (fun h1=>?_) fun h1=>?_
 ·cases hk:qan a.s.ty with
  | false=>rw [hk] at h1;cases h1
  | true=>rw [if_pos rfl];exact⟨rfl,rfl⟩
 have hk:qan a.s.ty=false:=by cases hk:qan a.s.ty<;>rw [hk] at h1<;>first|rfl|cases h1
 rw [if_neg (by rw [hk];exact Bool.false_ne_true)]
 refine .one rfl (DM.lift [0,2,3,4] h2') (fun h1=>?_) fun h1=>?_
 ·rw [if_pos h1];exact⟨rfl,rfl⟩
 rw [if_neg (by rw [h1];exact Bool.false_ne_true)]
 refine .one rfl (DM.lift [2] h3') (fun h1=>?_) fun h1=>?_
 ·cases hk:(R.1.kind==2||R.1.kind==3) with
  | true=>rw [hk] at h1;cases h1
  | false=>rw [if_pos (by decide)];exact⟨rfl,rfl⟩
 have hk:(R.1.kind==2||R.1.kind==3)=true:=by cases hk:(R.1.kind==2||R.1.kind==3)<;>rw [hk] at h1<;>first|rfl|cases h1
 rw [if_neg (by rw [hk];decide)]
 refine .one rfl (DM.lift [2] h4') (fun h1=>?_) fun h1=>?_
 ·cases hk:qan R.1 with
  | false=>rw [hk] at h1;cases h1
  | true=>rw [if_pos rfl];exact⟨rfl,rfl⟩
 have hk:qan R.1=false:=by cases hk:qan R.1<;>rw [hk] at h1<;>first|rfl|cases h1
 rw [if_neg (by rw [hk];exact Bool.false_ne_true)]
 refine .one rfl (DM.lift [0,5,6,7] h5') (fun h1=>⟨rfl,rfl⟩) fun h1=>?_
 have h0:qc2 a.p a.s.ty a.x=0:=by simpa using h1
 rw [h0]
 exact .nil _
theorem pgCast (a:Ak) (h:a.ok):DM Tryz.prog 105 [.a (.ptr 0 0)] [.cell (Ak.at a)] (.a (.v (.int .i64 (qj0 a).1))) [.cell (Ak.at a)]:=by
 have hA:=allCast a h
 generalize qj0 a=R at hA ⊢
 refine DM.intro Tryz.func105 rfl Tryz.ntmps105 rfl rfl rfl (by simp only [go_sem,simprocAttr]) (fun V0 Kb Nx=>?_)
 have fx:=trivial
 replace fx:=ai15 tyZ trivial
 repeat' (first|(refine RWL.fin ?_;try simp only [qab,qac])|refine stp [0,1,2,3] ?_|refine RWL.fr ?_|refine RWL.bC ?_|(refine' WP.dl (id:=2) [0,0,2,0,0,0,0,64,192,448,0,1024,3072,8166,16383,32767,65535] [0,1,2,3] [2,13,14,15] [(2,_),(13,_),(14,_),(15,_)] ?_)|(refine RWL.cM [0,2] (hp:=by exact qg1 a Ty.zero) (h:=?_))|(refine RWL.cM [0] (hp:=by exact pgFitsS a) (h:=?_))|(refine RWL.cM [0,1,2,3,4,5,6,7,8] (hp:=by exact hA) (h:=?_))|refine RWL.re ?_ ?_|refine RdO.oz|refine RdO.oe ?_|fail)
 exact qar ⟨rfl,_,rfl⟩
theorem Ak.ok_ob {a:Ak} (h:a.ok):(obI a).2.ok:=by
 obtain⟨h1,h2,h3,h4,h5⟩:=qfb a
 exact⟨by rw [h1];exact h.np,by rw [h2];exact h.nc,by rw [h3];exact h.na,by rw [h3];exact h.nl,by rw [h4];exact h.nz⟩
theorem all2 {a b c:Ak} {f g:FuncId} {z1 z2:Int} (h1:DM Tryz.prog f [.a (.ptr 0 0)] [.cell (Ak.at a)] (.a (.v (.int .i64 z1))) [.cell (Ak.at b)]) (h2:DM Tryz.prog g [.a (.ptr 0 0)] [.cell (Ak.at b)] (.a (.v (.int .i64 z2))) [.cell (Ak.at c)]):DM Tryz.prog 97 [.a (.cs 4 0 2)] [.cell (Ak.at a),.cell [.ptr 0 0],.cell (Ty.at Ty.zero),.cell (Ty.at Ty.zero),.cell [.fm f [.ptr 0 0],.fm g [.ptr 0 0]]] (.a (.v (.int .i64 (if (z1 != 0)=true then z1 else z2))))
  [.cell (Ak.at (if (z1 != 0)=true then b else c)),.cell [.ptr 0 0],.cell (Ty.at Ty.zero),.cell (Ty.at Ty.zero),.cell [.fm f [.ptr 0 0],.fm g [.ptr 0 0]]]:=by
 refine pAll 4 [.fm f [.ptr 0 0],.fm g [.ptr 0 0]] _ _ _ (Nat.le_of_ble_eq_true rfl) rfl rfl (by simp only [go_sem,simprocAttr]) ?_
 refine .one rfl (DM.lift [0] h1) (fun h=>?_) fun h=>?_
 ·simp only [h,if_true];first|exact⟨trivial,rfl⟩|exact⟨rfl,rfl⟩|trivial
 simp only [h,Bool.false_eq_true,if_false]
 refine .one rfl (DM.lift [0] h2) (fun h=>⟨rfl,rfl⟩) fun h=>?_
 have h0:z2=0:=by simpa using h
 rw [h0]
 exact .nil _
theorem all3 {a b c d:Ak} {f g k:FuncId} {z1 z2 z3:Int} (h1:DM Tryz.prog f [.a (.ptr 0 0)] [.cell (Ak.at a)] (.a (.v (.int .i64 z1))) [.cell (Ak.at b)]) (h2:DM Tryz.prog g [.a (.ptr 0 0)] [.cell (Ak.at b)] (.a (.v (.int .i64 z2))) [.cell (Ak.at c)]) (h3:DM Tryz.prog k [.a (.ptr 0 0)] [.cell (Ak.at c)] (.a (.v (.int .i64 z3))) [.cell (Ak.at d)]):DM Tryz.prog 97 [.a (.cs 4 0 3)] [.cell (Ak.at a),.cell [.ptr 0 0],.cell (Ty.at Ty.zero),.cell (Ty.at Ty.zero),.cell [.fm f [.ptr 0 0],.fm g [.ptr 0 0],.fm k [.ptr 0 0]]] (.a (.v (.int .i64 (if (z1 != 0)=true then z1 else if (z2 != 0)=true then z2 else z3))))
  [.cell (Ak.at (if (z1 != 0)=true then b else if (z2 != 0)=true then c else d)),.cell [.ptr 0 0],.cell (Ty.at Ty.zero),.cell (Ty.at Ty.zero),.cell [.fm f [.ptr 0 0],.fm g [.ptr 0 0],.fm k [.ptr 0 0]]]:=by
 refine pAll 4 [.fm f [.ptr 0 0],.fm g [.ptr 0 0],.fm k [.ptr 0 0]] _ _ _ (Nat.le_of_ble_eq_true rfl) rfl rfl (by simp only [go_sem,simprocAttr]) ?_
 refine .one rfl (DM.lift [0] h1) (fun h=>?_) fun h=>?_
 ·simp only [h,if_true];first|exact⟨trivial,rfl⟩|exact⟨rfl,rfl⟩|trivial
 simp only [h,Bool.false_eq_true,if_false]
 refine .one rfl (DM.lift [0] h2) (fun h=>?_) fun h=>?_
 ·simp only [h,if_true];first|exact⟨trivial,rfl⟩|exact⟨rfl,rfl⟩|trivial
 simp only [h,Bool.false_eq_true,if_false]
 refine .one rfl (DM.lift [0] h3) (fun h=>⟨rfl,rfl⟩) fun h=>?_
 have h0:z3=0:=by simpa using h
 rw [h0]
 exact .nil _
theorem pAskNew (a:Ak) (h:a.ok) (hk:a.s.kind=5):∃b,DM Tryz.prog 52 [.a (.ptr 0 0)] [.cell (Ak.at a)] (.a (.v (.int .i64 (if ((tgt a).1 != 0)=true then (tgt a).1 else qn3 (tgt a).2)))) [.cell (Ak.at b)]:=by
 have hA:=all2 (qeb a h) (pgMade _ (Ak.ok_tgt h))
 refine⟨if ((tgt a).1 != 0)=true then (tgt a).2 else (tgt a).2,?_⟩
 generalize (if ((tgt a).1 != 0)=true then (tgt a).1 else qn3 (tgt a).2)=z at hA ⊢
 generalize (if ((tgt a).1 != 0)=true then (tgt a).2 else (tgt a).2)=b at hA ⊢
 refine DM.intro Tryz.func52 rfl Tryz.ntmps52 rfl rfl rfl (by simp only [go_sem,simprocAttr]) (fun V0 Kb Nx=>?_)
 have fx:=trivial
 replace fx:=ai15 hk (ai15 tyZ trivial)
 repeat' (first|refine stp [0,1,2,3,4,9,10,23,38,50,57,72,80,88,102,115] ?_|(refine RS.bC ?_;refine rnx ?_)|(refine RS.mb ?_;refine rnx ?_)|(refine RS.cM [0,1,2,3,4] (hp:=by exact hA) (h:=?_);refine rnx ?_)|fail)
 exact qar ⟨rfl,_,rfl⟩
theorem pAskCast (a:Ak) (h:a.ok) (hk:a.s.kind=6):∃b,DM Tryz.prog 52 [.a (.ptr 0 0)] [.cell (Ak.at a)] (.a (.v (.int .i64 (if ((tgt a).1 != 0)=true then (tgt a).1 else (qj0 (tgt a).2).1)))) [.cell (Ak.at b)]:=by
 have hA:=all2 (qeb a h) (pgCast _ (Ak.ok_tgt h))
 refine⟨if ((tgt a).1 != 0)=true then (tgt a).2 else (tgt a).2,?_⟩
 generalize (if ((tgt a).1 != 0)=true then (tgt a).1 else (qj0 (tgt a).2).1)=z at hA ⊢
 generalize (if ((tgt a).1 != 0)=true then (tgt a).2 else (tgt a).2)=b at hA ⊢
 refine DM.intro Tryz.func52 rfl Tryz.ntmps52 rfl rfl rfl (by simp only [go_sem,simprocAttr]) (fun V0 Kb Nx=>?_)
 have fx:=trivial
 replace fx:=ai15 hk (ai15 tyZ trivial)
 repeat' (first|refine stp [0,1,2,3,4,9,10,23,38,50,57,72,80,88,102,115] ?_|(refine RS.bC ?_;refine rnx ?_)|(refine RS.mb ?_;refine rnx ?_)|(refine RS.cM [0,1,2,3,4] (hp:=by exact hA) (h:=?_);refine rnx ?_)|fail)
 exact qar ⟨rfl,_,rfl⟩
theorem pAskCallN (a:Ak) (h:a.ok) (hzz:qaf Cs.sz a.p≤1048576) (hk:a.s.kind=4) (hx:(a.s.x==[])=true):∃b,DM Tryz.prog 52 [.a (.ptr 0 0)] [.cell (Ak.at a)] (.a (.v (.int .i64 (if ((obI a).1 != 0)=true then (obI a).1 else qh2 (obI a).2)))) [.cell (Ak.at b)]:=by
 have hA:=all2 (qe9 a h) (pgCall _ (Ak.ok_ob h) (by rw [(qfb a).1];exact hzz))
 refine⟨if ((obI a).1 != 0)=true then (obI a).2 else (obI a).2,?_⟩
 generalize (if ((obI a).1 != 0)=true then (obI a).1 else qh2 (obI a).2)=z at hA ⊢
 generalize (if ((obI a).1 != 0)=true then (obI a).2 else (obI a).2)=b at hA ⊢
 refine DM.intro Tryz.func52 rfl Tryz.ntmps52 rfl rfl rfl (by simp only [go_sem,simprocAttr]) (fun V0 Kb Nx=>?_)
 have fx:=trivial
 replace fx:=ai15 hk (ai15 hx (ai15 tyZ trivial))
 repeat' (first|refine stp [0,1,2,3,4,9,10,23,38,50,57,72,80,88,102,115] ?_|(refine RS.bC ?_;refine rnx ?_)|(refine RS.mb ?_;refine rnx ?_)|(refine RS.cM [0,1,2,3,4] (hp:=by exact hA) (h:=?_);refine rnx ?_)|fail)
 exact qar ⟨rfl,_,rfl⟩
theorem pAskCallX (a:Ak) (h:a.ok) (hzz:qaf Cs.sz a.p≤1048576) (hk:a.s.kind=4) (hx:(a.s.x==[])=false):∃b,DM Tryz.prog 52 [.a (.ptr 0 0)] [.cell (Ak.at a)] (.a (.v (.int .i64 (if ((tgt a).1 != 0)=true then (tgt a).1 else if ((obI (tgt a).2).1 != 0)=true then (obI (tgt a).2).1 else qh2 (obI (tgt a).2).2)))) [.cell (Ak.at b)]:=by
 have hA:=all3 (qeb a h) (qe9 _ (Ak.ok_tgt h)) (pgCall _ (Ak.ok_ob (Ak.ok_tgt h)) (by rw [(qfb _).1,(qi3 a).1];exact hzz))
 refine⟨if ((tgt a).1 != 0)=true then (tgt a).2 else if ((obI (tgt a).2).1 != 0)=true then (obI (tgt a).2).2 else (obI (tgt a).2).2,?_⟩
 generalize (if ((tgt a).1 != 0)=true then (tgt a).1 else if ((obI (tgt a).2).1 != 0)=true then (obI (tgt a).2).1 else qh2 (obI (tgt a).2).2)=z at hA ⊢
 generalize (if ((tgt a).1 != 0)=true then (tgt a).2 else if ((obI (tgt a).2).1 != 0)=true then (obI (tgt a).2).2 else (obI (tgt a).2).2)=b at hA ⊢
 refine DM.intro Tryz.func52 rfl Tryz.ntmps52 rfl rfl rfl (by simp only [go_sem,simprocAttr]) (fun V0 Kb Nx=>?_)
 have fx:=trivial
 replace fx:=ai15 hk (ai15 hx (ai15 tyZ trivial))
 repeat' (first|refine stp [0,1,2,3,4,9,10,23,38,50,57,72,80,88,102,115] ?_|(refine RS.bC ?_;refine rnx ?_)|(refine RS.mb ?_;refine rnx ?_)|(refine RS.cM [0,1,2,3,4] (hp:=by exact hA) (h:=?_);refine rnx ?_)|fail)
 exact qar ⟨rfl,_,rfl⟩
def qjl (a:Ak):Int×Ak×Ty :=
 if ((tgt a).1 != 0)=true then ((tgt a).1,(tgt a).2,Ty.zero) else if (vrE (tgt a).2 a.s.y != 0)=true then (vrE (tgt a).2 a.s.y,(tgt a).2,vrT (tgt a).2 a.s.y) else (qfe (tgt a).2.p (vrT (tgt a).2 a.s.y) (tgt a).2.x,(tgt a).2,vrT (tgt a).2 a.s.y)
theorem allMove (a:Ak) (h:a.ok):DM Tryz.prog 97 [.a (.cs 7 0 3)] [.cell (Ak.at a),.cell [.ptr 0 0],.cell (Ty.at Ty.zero),.cell (Ty.at Ty.zero),.cell [.ptr 0 0],.cell [.v (.string (bs a.s.y))],.cell [.ptr 2 0],.cell [.fm 98 [.ptr 0 0],.fn 166 [.ptr 4 0,.ptr 5 0,.ptr 6 0],.fn 107 [.ptr 1 0,.ptr 2 0]]] (.a (.v (.int .i64 (qjl a).1)))
  [.cell (Ak.at (qjl a).2.1),.cell [.ptr 0 0],.cell (Ty.at (qjl a).2.2),.cell (Ty.at Ty.zero),.cell [.ptr 0 0],.cell [.v (.string (bs a.s.y))],.cell [.ptr 2 0],.cell [.fm 98 [.ptr 0 0],.fn 166 [.ptr 4 0,.ptr 5 0,.ptr 6 0],.fn 107 [.ptr 1 0,.ptr 2 0]]]:=by
 have ht:=qeb a h
 have hv:=pgVarT1 (tgt a).2 Ty.zero a.s.y (Ak.ok_tgt h)
 have hb:(if qaz (tgt a).2.m a.s.y<0 then Ty.zero else (qak (tgt a).2.c (tgt a).2.m a.s.y).1)=vrT (tgt a).2 a.s.y:=rfl
 rw [hb] at hv
 have hg:=pgAsk1 (tgt a).2 (vrT (tgt a).2 a.s.y) (Ak.ok_tgt h)
 refine pAll 7 [.fm 98 [.ptr 0 0],.fn 166 [.ptr 4 0,.ptr 5 0,.ptr 6 0],.fn 107 [.ptr 1 0,.ptr 2 0]] _ _ _ (Nat.le_of_ble_eq_true rfl) rfl rfl (by simp only [go_sem,simprocAttr]) ?_
 unfold qjl
 generalize vrE (tgt a).2 a.s.y=e1 at hv ⊢
 generalize vrT (tgt a).2 a.s.y=t at hv hg ⊢
 generalize tgt a=T at ht hv hg ⊢
 refine .one rfl (DM.lift [0] ht) (fun h1=>?_) fun h1=>?_
 ·rw [if_pos h1];exact⟨rfl,rfl⟩
 rw [if_neg (by rw [h1];exact Bool.false_ne_true)]
 refine .one rfl (DM.lift [0,2,4,5,6] hv) (fun h2=>?_) fun h2=>?_
 ·rw [if_pos h2];exact⟨rfl,rfl⟩
 rw [if_neg (by rw [h2];exact Bool.false_ne_true)]
 refine .one rfl (DM.lift [0,2,1] hg) (fun h3=>⟨rfl,rfl⟩) fun h3=>?_
 have h0:qfe T.2.p t T.2.x=0:=by simpa using h3
 rw [h0]
 exact .nil _
theorem pAskMove (a:Ak) (h:a.ok) (hk:a.s.kind=7):DM Tryz.prog 52 [.a (.ptr 0 0)] [.cell (Ak.at a)] (.a (.v (.int .i64 (qjl a).1))) [.cell (Ak.at (qjl a).2.1)]:=by
 have hA:=allMove a h
 generalize qjl a=R at hA ⊢
 refine DM.intro Tryz.func52 rfl Tryz.ntmps52 rfl rfl rfl (by simp only [go_sem,simprocAttr]) (fun V0 Kb Nx=>?_)
 have fx:=trivial
 replace fx:=ai15 hk (ai15 tyZ trivial)
 repeat' (first|(refine RWL.fin ?_;try simp only [qab,qac])|refine stp [0,1,2,3,4,9,10,23,38,50,57,72,80,88,102,115] ?_|refine RWL.fr ?_|refine RWL.mb ?_|refine RWL.bC ?_|(refine' WP.dl (id:=18) [0,1,0,0,8,24,56,120,252,0,1023,2047,4095] [0,1,2,3,4,9,10,23,38,50,57,72,80,88,102,115] [8,10,11] [(8,_),(10,_),(11,_)] ?_)|(refine RWL.cM [0,2] (hp:=by exact pgVarT a Ty.zero a.s.y) (h:=?_))|(refine RWL.cM [0,1,2,3,4,5,6,7] (hp:=by exact hA) (h:=?_))|refine RWL.re ?_ ?_|refine RdO.oz|refine RdO.oe ?_|fail)
 exact qar ⟨rfl,_,rfl⟩
def qjz (a:Ak):Int×Ty:=if ((oneT a.c a.m a.s.e).2 != 0)=true then ((oneT a.c a.m a.s.e).2,(oneT a.c a.m a.s.e).1) else (bif (oneT a.c a.m a.s.e).1.kind==1 then 0 else 14,(oneT a.c a.m a.s.e).1)
theorem allCond (a:Ak) (h:a.ok):DM Tryz.prog 97 [.a (.cs 6 0 2)] [.cell (Ak.at a),.cell [.ptr 0 0],.cell (Ty.at Ty.zero),.cell (Ty.at Ty.zero),.cell [.ptr 0 0],.cell [.ptr 2 0],.cell [.fn 155 [.ptr 4 0,.ptr 5 0],.fn 113 [.ptr 2 0]]] (.a (.v (.int .i64 (qjz a).1)))
  [.cell (Ak.at a),.cell [.ptr 0 0],.cell (Ty.at (qjz a).2),.cell (Ty.at Ty.zero),.cell [.ptr 0 0],.cell [.ptr 2 0],.cell [.fn 155 [.ptr 4 0,.ptr 5 0],.fn 113 [.ptr 2 0]]]:=by
 have h2':=qgf a Ty.zero h
 refine pAll 6 [.fn 155 [.ptr 4 0,.ptr 5 0],.fn 113 [.ptr 2 0]] _ _ _ (Nat.le_of_ble_eq_true rfl) rfl rfl (by simp only [go_sem,simprocAttr]) ?_
 unfold qjz
 generalize oneT a.c a.m a.s.e=R at h2' ⊢
 have h4':=pgAsk4 R.1
 refine .one rfl (DM.lift [0,2,4,5] h2') (fun h1=>?_) fun h1=>?_
 ·rw [if_pos h1];exact⟨rfl,rfl⟩
 rw [if_neg (by rw [h1];exact Bool.false_ne_true)]
 refine .one rfl (DM.lift [2] h4') (fun h1=>⟨rfl,rfl⟩) fun h1=>?_
 have h0:(bif R.1.kind==1 then (0:Int) else 14)=0:=by simpa using h1
 rw [h0]
 exact .nil _
theorem pAskIf (a:Ak) (h:a.ok) (hk:a.s.kind=9):DM Tryz.prog 52 [.a (.ptr 0 0)] [.cell (Ak.at a)] (.a (.v (.int .i64 (qjz a).1))) [.cell (Ak.at a)]:=by
 have hA:=allCond a h
 generalize qjz a=R at hA ⊢
 refine DM.intro Tryz.func52 rfl Tryz.ntmps52 rfl rfl rfl (by simp only [go_sem,simprocAttr]) (fun V0 Kb Nx=>?_)
 have fx:=trivial
 replace fx:=ai15 hk (ai15 tyZ trivial)
 repeat' (first|refine stp [0,1,2,3,4,9,10,23,38,50,57,72,80,88,102,115] ?_|(refine RS.bC ?_;refine rnx ?_)|(refine RS.cM [0,2] (hp:=by exact qg1 a Ty.zero) (h:=?_);refine rnx ?_)|(refine RS.cM [0,1,2,3,4,5,6] (hp:=by exact hA) (h:=?_);refine rnx ?_)|fail)
 exact qar ⟨rfl,_,rfl⟩
theorem pAskWhile (a:Ak) (h:a.ok) (hk:a.s.kind=10):DM Tryz.prog 52 [.a (.ptr 0 0)] [.cell (Ak.at a)] (.a (.v (.int .i64 (qjz a).1))) [.cell (Ak.at a)]:=by
 have hA:=allCond a h
 generalize qjz a=R at hA ⊢
 refine DM.intro Tryz.func52 rfl Tryz.ntmps52 rfl rfl rfl (by simp only [go_sem,simprocAttr]) (fun V0 Kb Nx=>?_)
 have fx:=trivial
 replace fx:=ai15 hk (ai15 tyZ trivial)
 repeat' (first|refine stp [0,1,2,3,4,9,10,23,38,50,57,72,80,88,102,115] ?_|(refine RS.bC ?_;refine rnx ?_)|(refine RS.cM [0,2] (hp:=by exact qg1 a Ty.zero) (h:=?_);refine rnx ?_)|(refine RS.cM [0,1,2,3,4,5,6] (hp:=by exact hA) (h:=?_);refine rnx ?_)|fail)
 exact qar ⟨rfl,_,rfl⟩
theorem pfOf (p:List Cs) (s n:List UInt8) (hF:qaf (fun c=>c.fields.length) p≤1048576) (hA:qaa Tryz.prog 173 [.a (.sl (p.map Cs.at)),.a (.v (.string (bs s)))] (.a (.sl ((allF p s).map Fs.at)))):qaa Tryz.prog 118 [.a (.sl (p.map Cs.at)),.a (.v (.string (bs s))),.a (.v (.string (bs n)))] (.t [.r (Fs.at (qa4 p s n).1),.a (.v (.bool (qa4 p s n).2))]):=by
 have hx:=pIxSlot (fun f=>f.var.name==n) (allF p s) 207 [.ref [.v (.string (bs n))] 0] rfl (Nat.le_trans (allF_len p s) hF) (fun k _=>pfNamed1 k n)
 have zF:=Fs.z0
 rcases qfc (fun f:Fs=>f.var.name==n) (allF p s) 0 with hp|⟨j,z,hz,_,hp⟩
 ·have hp':findF p s n = -1:=hp
  rw [hp] at hx
  rw [show qa4 p s n=(Fs.zero,false) by unfold qa4;rw [hp',if_pos (by omega)]]
  have hd:decide ((-1:Int)<0)=true:=by decide
  refine qaa.go Tryz.func118 rfl Tryz.ntmps118 rfl rfl rfl (fun C hro=>?_)
  have fx:=trivial
  replace fx:=ai15 hd (ai15 zF trivial)
  repeat' (first|refine stp [0,1,2,6,7,8,9,18] ?_|(refine stc (r1:=by first|exact hA|exact hx) (r2:=?_);refine rnx ?_)|(refine RS.cM [] (hp:=by exact pfNamed n) (h:=?_);refine rnx ?_)|fail)
  all_goals first|rfl|trace_state
 ·have hp':findF p s n=(j:Int):=by rw [Nat.zero_add] at hp;exact hp
  rw [Nat.zero_add] at hp
  rw [hp] at hx
  rw [show qa4 p s n=(z,true) by unfold qa4;rw [hp',if_neg (by omega),Int.toNat_natCast,hz];rfl]
  have hd:decide ((j:Int)<0)=false:=decide_eq_false (by omega)
  have hjx:∀q2,ixD (some 14) q2 (.a (.sl ((allF p s).map Fs.at))) (.a (.v (.int .i64 (j:Int))))=some (.a (.ref (Fs.at z) 0)):=fun q2=>qaq rfl (by rw [List.getElem?_map,hz];rfl) (by simp only [go_sem])
  refine qaa.go Tryz.func118 rfl Tryz.ntmps118 rfl rfl rfl (fun C hro=>?_)
  have fx:=trivial
  replace fx:=ai15 hd (ai15 hjx (ai15 zF trivial))
  repeat' (first|refine stp [0,1,2,6,7,8,9,18] ?_|(refine stc (r1:=by first|exact hA|exact hx) (r2:=?_);refine rnx ?_)|(refine RS.cM [] (hp:=by exact pfNamed n) (h:=?_);refine rnx ?_)|fail)
  all_goals first|rfl|trace_state
def fldI (a:Ak):Int×Ty:=(bif (qa4 a.p a.o.cls a.s.name).2 then 0 else 11,(qa4 a.p a.o.cls a.s.name).1.var.ty)
theorem pgField (a:Ak) (t:Ty):DM Tryz.prog 102 [.a (.ptr 0 0),.a (.ptr 1 0)] [.cell (Ak.at a),.cell (Ty.at t)] (.a (.fn 158 [.ptr 2 0,.ptr 3 0])) [.cell (Ak.at a),.cell (Ty.at t),.cell [.ptr 0 0],.cell [.ptr 1 0]]:=by
 refine DM.intro Tryz.func102 rfl Tryz.ntmps102 rfl rfl rfl (by simp only [go_sem,simprocAttr]) (fun V0 Kb Nx=>?_)
 have fx:=trivial
 repeat' (first|refine stp [0,1,2,3,4] ?_|fail)
 exact qar ⟨rfl,[],rfl⟩
theorem qm3 (a:Ak) (t:Ty) (hO:qaa Tryz.prog 118 [.a (.sl (a.p.map Cs.at)),.a (.v (.string (bs a.o.cls))),.a (.v (.string (bs a.s.name)))] (.t [.r (Fs.at (qa4 a.p a.o.cls a.s.name).1),.a (.v (.bool (qa4 a.p a.o.cls a.s.name).2))])):DM Tryz.prog 158 [.a (.ptr 2 0),.a (.ptr 3 0)] [.cell (Ak.at a),.cell (Ty.at t),.cell [.ptr 0 0],.cell [.ptr 1 0]] (.a (.v (.int .i64 (fldI a).1))) [.cell (Ak.at a),.cell (Ty.at (fldI a).2),.cell [.ptr 0 0],.cell [.ptr 1 0]]:=by
 have zF:=Fs.z0
 unfold fldI
 generalize qa4 a.p a.o.cls a.s.name=Z at hO ⊢
 refine DM.intro Tryz.func158 rfl Tryz.ntmps158 rfl rfl rfl (by simp only [go_sem,simprocAttr]) (fun V0 Kb Nx=>?_)
 have fx:=trivial
 replace fx:=ai15 zF trivial
 repeat' (first|(refine RWL.fin ?_;try simp only [qab,qac])|refine stp [0,1,2,3,4] ?_|refine RWL.fr ?_|refine RWL.wt ?_|(refine stc (r1:=by first|exact hO|exact qf6 Z.2 11) (r2:=?_);refine rnx ?_)|(refine' WP.dl (id:=1) [0,1,3,7,0,16,48,112,240,0,512,1536,3584,7680,16383,32767,65535,65535,0,393215,1048575] [0,1,2,3,4] [18,19] [(18,_),(19,_)] ?_)|refine RWL.re ?_ ?_|refine RdO.oz|refine RdO.oe ?_|fail)
 exact qar ⟨rfl,_,rfl⟩
theorem pgFitsU (a:Ak) (t u:Ty):DM Tryz.prog 100 [.a (.ptr 0 0),.a (.ptr 2 0),.a (.ptr 1 0)] [.cell (Ak.at a),.cell (Ty.at t),.cell (Ty.at u)] (.a (.fn 156 [.ptr 3 0,.ptr 4 0,.ptr 5 0])) [.cell (Ak.at a),.cell (Ty.at t),.cell (Ty.at u),.cell [.ptr 0 0],.cell [.ptr 2 0],.cell [.ptr 1 0]]:=by
 refine DM.intro Tryz.func100 rfl Tryz.ntmps100 rfl rfl rfl (by simp only [go_sem,simprocAttr]) (fun V0 Kb Nx=>?_)
 have fx:=trivial
 repeat' (first|refine stp [0,1,2,3,4,5,6] ?_|fail)
 exact qar ⟨rfl,[],rfl⟩
theorem pgFitsU1 (a:Ak) (t u:Ty) (h:a.ok):DM Tryz.prog 156 [.a (.ptr 3 0),.a (.ptr 4 0),.a (.ptr 5 0)] [.cell (Ak.at a),.cell (Ty.at t),.cell (Ty.at u),.cell [.ptr 0 0],.cell [.ptr 2 0],.cell [.ptr 1 0]] (.a (.v (.int .i64 (qc2 a.p u t)))) [.cell (Ak.at a),.cell (Ty.at t),.cell (Ty.at u),.cell [.ptr 0 0],.cell [.ptr 2 0],.cell [.ptr 1 0]]:=by
 refine DM.intro Tryz.func156 rfl Tryz.ntmps156 rfl rfl rfl (by simp only [go_sem,simprocAttr]) (fun V0 Kb Nx=>?_)
 have fx:=trivial
 repeat' (first|refine stp [0,1,2,3] ?_|(refine stc (r1:=by exact pFits a.p u t h.np) (r2:=?_);refine rnx ?_)|((refine WP.dw (id:=1) 12 [0,1,2,3] ?_);simp only [qbh,List.drop_succ_cons,List.drop_zero,List.drop_nil])|fail)
 exact qar ⟨rfl,_,rfl⟩
def FdOf (p:List Cs):Prop:=∀s n:List UInt8,qaa Tryz.prog 118 [.a (.sl (p.map Cs.at)),.a (.v (.string (bs s))),.a (.v (.string (bs n)))] (.t [.r (Fs.at (qa4 p s n).1),.a (.v (.bool (qa4 p s n).2))])
def getI (a:Ak):Int×Ak×Ty :=
 if ((tgt a).1 != 0)=true then ((tgt a).1,(tgt a).2,Ty.zero) else if ((obI (tgt a).2).1 != 0)=true then ((obI (tgt a).2).1,(obI (tgt a).2).2,Ty.zero)
 else if ((fldI (obI (tgt a).2).2).1 != 0)=true then ((fldI (obI (tgt a).2).2).1,(obI (tgt a).2).2,(fldI (obI (tgt a).2).2).2) else (qc2 (obI (tgt a).2).2.p (fldI (obI (tgt a).2).2).2 (obI (tgt a).2).2.x,(obI (tgt a).2).2,(fldI (obI (tgt a).2).2).2)
theorem allGet (a:Ak) (h:a.ok) (hO:FdOf a.p):DM Tryz.prog 97 [.a (.cs 9 0 4)] [.cell (Ak.at a),.cell [.ptr 0 0],.cell (Ty.at Ty.zero),.cell (Ty.at Ty.zero),.cell [.ptr 0 0],.cell [.ptr 2 0],.cell [.ptr 0 0],.cell [.ptr 2 0],.cell [.ptr 0 48],.cell [.fm 98 [.ptr 0 0],.fm 101 [.ptr 0 0],.fn 158 [.ptr 4 0,.ptr 5 0],.fn 156 [.ptr 6 0,.ptr 7 0,.ptr 8 0]]] (.a (.v (.int .i64 (getI a).1)))
  [.cell (Ak.at (getI a).2.1),.cell [.ptr 0 0],.cell (Ty.at (getI a).2.2),.cell (Ty.at Ty.zero),.cell [.ptr 0 0],.cell [.ptr 2 0],.cell [.ptr 0 0],.cell [.ptr 2 0],.cell [.ptr 0 48],.cell [.fm 98 [.ptr 0 0],.fm 101 [.ptr 0 0],.fn 158 [.ptr 4 0,.ptr 5 0],.fn 156 [.ptr 6 0,.ptr 7 0,.ptr 8 0]]]:=by
 have ht:=qeb a h
 have ho:=qe9 (tgt a).2 (Ak.ok_tgt h)
 have hok:=Ak.ok_ob (Ak.ok_tgt h)
 have hp:(obI (tgt a).2).2.p=a.p:=by rw [(qfb _).1,(qi3 a).1]
 have hf:=qm3 (obI (tgt a).2).2 Ty.zero (by rw [hp];exact hO _ _)
 have hx:=fun t=>qm2 (obI (tgt a).2).2 t hok
 refine pAll 9 [.fm 98 [.ptr 0 0],.fm 101 [.ptr 0 0],.fn 158 [.ptr 4 0,.ptr 5 0],.fn 156 [.ptr 6 0,.ptr 7 0,.ptr 8 0]] _ _ _ (Nat.le_of_ble_eq_true rfl) rfl rfl (by simp only [go_sem,simprocAttr]) ?_
 unfold getI
 clear hp hok
 generalize fldI (obI (tgt a).2).2=L at hf ⊢
 generalize obI (tgt a).2=B at ho hf hx ⊢
 generalize tgt a=T at ht ho ⊢
 refine .one rfl (DM.lift [0] ht) (fun h1=>?_) fun h1=>?_
 ·rw [if_pos h1];exact⟨rfl,rfl⟩
 rw [if_neg (by rw [h1];exact Bool.false_ne_true)]
 refine .one rfl (DM.lift [0] ho) (fun h2=>?_) fun h2=>?_
 ·rw [if_pos h2];exact⟨rfl,rfl⟩
 rw [if_neg (by rw [h2];exact Bool.false_ne_true)]
 refine .one rfl (DM.lift [0,2,4,5] hf) (fun h3=>?_) fun h3=>?_
 ·rw [if_pos h3];exact⟨rfl,rfl⟩
 rw [if_neg (by rw [h3];exact Bool.false_ne_true)]
 refine .one rfl (DM.lift [0,2,6,7,8] (hx L.2)) (fun h4=>⟨rfl,rfl⟩) fun h4=>?_
 have h0:qc2 B.2.p L.2 B.2.x=0:=by simpa using h4
 rw [h0]
 exact .nil _
theorem pAskGet (a:Ak) (h:a.ok) (hO:FdOf a.p) (hk:a.s.kind=2):DM Tryz.prog 52 [.a (.ptr 0 0)] [.cell (Ak.at a)] (.a (.v (.int .i64 (getI a).1))) [.cell (Ak.at (getI a).2.1)]:=by
 have hA:=allGet a h hO
 generalize getI a=R at hA ⊢
 refine DM.intro Tryz.func52 rfl Tryz.ntmps52 rfl rfl rfl (by simp only [go_sem,simprocAttr]) (fun V0 Kb Nx=>?_)
 have fx:=trivial
 replace fx:=ai15 hk (ai15 tyZ trivial)
 repeat' (first|(refine RWL.fin ?_;try simp only [qab,qac])|refine stp [0,1,2,3,4,9,10,23,38,50,57,72,80,88,102,115] ?_|refine RWL.fr ?_|refine RWL.mb ?_|refine RWL.bC ?_|(refine' WP.dl (id:=6) [0,1,0,4,0,16,0,0,128,384,1008,2047,4095,8191] [0,1,2,3,4,9,10,23,38,50,57,72,80,88,102,115] [5,10,11,12] [(5,_),(10,_),(11,_),(12,_)] ?_)|(refine RWL.cM [0,2] (hp:=by exact pgField a Ty.zero) (h:=?_))|(refine RWL.cM [0,2] (hp:=by exact pgFitsX a Ty.zero) (h:=?_))|(refine RWL.cM [0,1,2,3,4,5,6,7,8,9] (hp:=by exact hA) (h:=?_))|refine RWL.re ?_ ?_|refine RdO.oz|refine RdO.oe ?_|fail)
 exact qar ⟨rfl,_,rfl⟩
def putI (a:Ak):Int×Ak×Ty×Ty :=
 if ((obI a).1 != 0)=true then ((obI a).1,(obI a).2,Ty.zero,Ty.zero) else if ((fldI (obI a).2).1 != 0)=true then ((fldI (obI a).2).1,(obI a).2,(fldI (obI a).2).2,Ty.zero)
 else if ((oneT (obI a).2.c (obI a).2.m (obI a).2.s.e).2 != 0)=true then ((oneT (obI a).2.c (obI a).2.m (obI a).2.s.e).2,(obI a).2,(fldI (obI a).2).2,(oneT (obI a).2.c (obI a).2.m (obI a).2.s.e).1) else (qc2 (obI a).2.p (oneT (obI a).2.c (obI a).2.m (obI a).2.s.e).1 (fldI (obI a).2).2,(obI a).2,(fldI (obI a).2).2,(oneT (obI a).2.c (obI a).2.m (obI a).2.s.e).1)
theorem allPut (a:Ak) (h:a.ok) (hO:FdOf a.p):DM Tryz.prog 97 [.a (.cs 11 0 4)] [.cell (Ak.at a),.cell [.ptr 0 0],.cell (Ty.at Ty.zero),.cell (Ty.at Ty.zero),.cell [.ptr 0 0],.cell [.ptr 2 0],.cell [.ptr 0 0],.cell [.ptr 3 0],.cell [.ptr 0 0],.cell [.ptr 3 0],.cell [.ptr 2 0],.cell [.fm 101 [.ptr 0 0],.fn 158 [.ptr 4 0,.ptr 5 0],.fn 155 [.ptr 6 0,.ptr 7 0],.fn 156 [.ptr 8 0,.ptr 9 0,.ptr 10 0]]] (.a (.v (.int .i64 (putI a).1)))
  [.cell (Ak.at (putI a).2.1),.cell [.ptr 0 0],.cell (Ty.at (putI a).2.2.1),.cell (Ty.at (putI a).2.2.2),.cell [.ptr 0 0],.cell [.ptr 2 0],.cell [.ptr 0 0],.cell [.ptr 3 0],.cell [.ptr 0 0],.cell [.ptr 3 0],.cell [.ptr 2 0],.cell [.fm 101 [.ptr 0 0],.fn 158 [.ptr 4 0,.ptr 5 0],.fn 155 [.ptr 6 0,.ptr 7 0],.fn 156 [.ptr 8 0,.ptr 9 0,.ptr 10 0]]]:=by
 have ho:=qe9 a h
 have hok:=Ak.ok_ob h
 have hp:(obI a).2.p=a.p:=(qfb _).1
 have hf:=qm3 (obI a).2 Ty.zero (by rw [hp];exact hO _ _)
 have hv:=qgf (obI a).2 Ty.zero hok
 have hx:=fun t u=>pgFitsU1 (obI a).2 t u hok
 refine pAll 11 [.fm 101 [.ptr 0 0],.fn 158 [.ptr 4 0,.ptr 5 0],.fn 155 [.ptr 6 0,.ptr 7 0],.fn 156 [.ptr 8 0,.ptr 9 0,.ptr 10 0]] _ _ _ (Nat.le_of_ble_eq_true rfl) rfl rfl (by simp only [go_sem,simprocAttr]) ?_
 unfold putI
 clear hp hok
 generalize fldI (obI a).2=L at hf ⊢
 generalize oneT (obI a).2.c (obI a).2.m (obI a).2.s.e=R at hv ⊢
 generalize obI a=B at ho hf hv hx ⊢
 refine .one rfl (DM.lift [0] ho) (fun h2=>?_) fun h2=>?_
 ·rw [if_pos h2];exact⟨rfl,rfl⟩
 rw [if_neg (by rw [h2];exact Bool.false_ne_true)]
 refine .one rfl (DM.lift [0,2,4,5] hf) (fun h3=>?_) fun h3=>?_
 ·rw [if_pos h3];exact⟨rfl,rfl⟩
 rw [if_neg (by rw [h3];exact Bool.false_ne_true)]
 refine .one rfl (DM.lift [0,3,6,7] hv) (fun h4=>?_) fun h4=>?_
 ·rw [if_pos h4];exact⟨rfl,rfl⟩
 rw [if_neg (by rw [h4];exact Bool.false_ne_true)]
 refine .one rfl (DM.lift [0,2,3,8,9,10] (hx L.2 R.1)) (fun h5=>⟨rfl,rfl⟩) fun h5=>?_
 have h0:qc2 B.2.p R.1 L.2=0:=by simpa using h5
 rw [h0]
 exact .nil _
theorem pAskPut (a:Ak) (h:a.ok) (hO:FdOf a.p) (hk:a.s.kind=3):DM Tryz.prog 52 [.a (.ptr 0 0)] [.cell (Ak.at a)] (.a (.v (.int .i64 (putI a).1))) [.cell (Ak.at (putI a).2.1)]:=by
 have hA:=allPut a h hO
 generalize putI a=R at hA ⊢
 refine DM.intro Tryz.func52 rfl Tryz.ntmps52 rfl rfl rfl (by simp only [go_sem,simprocAttr]) (fun V0 Kb Nx=>?_)
 have fx:=trivial
 replace fx:=ai15 hk (ai15 tyZ trivial)
 repeat' (first|(refine RWL.fin ?_;try simp only [qab,qac])|refine stp [0,1,2,3,4,9,10,23,38,50,57,72,80,88,102,115] ?_|refine RWL.fr ?_|refine RWL.mb ?_|refine RWL.bC ?_|(refine' WP.dl (id:=8) [0,1,0,4,0,28,0,124,255,511,1023] [0,1,2,3,4,9,10,23,38,50,57,72,80,88,102,115] [3,5,7,8,9] [(3,_),(5,_),(7,_),(8,_),(9,_)] ?_)|(refine RWL.cM [0,2] (hp:=by exact pgField a Ty.zero) (h:=?_))|(refine RWL.cM [0,3] (hp:=by exact qg1 a Ty.zero) (h:=?_))|(refine RWL.cM [0,2,3] (hp:=by exact pgFitsU a Ty.zero Ty.zero) (h:=?_))|(refine RWL.cM [0,1,2,3,4,5,6,7,8,9,10,11] (hp:=by exact hA) (h:=?_))|refine RWL.re ?_ ?_|refine RdO.oz|refine RdO.oe ?_|fail)
 exact qar ⟨rfl,_,rfl⟩
end Go.Proofs.YthkojpnjdpbcgaaGreatDoor
