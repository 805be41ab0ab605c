/- fit's askers that only read, on plain data. Conditions: at most 2^20 of anything. -/
import Derived.Test.YtibdalkdgjghoaaGreatDoorMg43
import Derived.Test.YtibdalkdgjghoaaGreatDoorMg44
set_option linter.unusedVariables false
set_option maxRecDepth 100000
set_option maxHeartbeats 8000000
set_option linter.unusedSimpArgs false
namespace Go.Proofs.YtibdalkdgjghoaaGreatDoor
open Go.RowKit
def backP (a:Ak) (r:Ty):Int:=if (a.s.x==[])=true then 0 else if (r.kind==0)=true then 14 else if uniqB a.x=true then givesI a.p r a.x else if uniqB r=true then 22 else fitsI a.p r a.x
def madeP (a:Ak):Int:=if (a.x.kind != 2)=true then 14 else if (!(uniqB a.x==uniqB a.s.ty))=true then 22 else if (!belowB a.p a.s.ty.cls a.x.cls)=true then 15 else 0
theorem pgBack (a:Ak) (r:Ty) (h:a.ok):DM Tryz.prog 181 [.a (.ptr 0 0),.r (Ty.at r)] [.cell (Ak.at a)] (.a (.v (.int .i64 (backP a r)))) [.cell (Ak.at a)]:=by
 have hp:=h.np
 unfold backP
 refine DM.intro Tryz.func181 rfl Tryz.ntmps181 rfl rfl rfl (by simp only [go_sem,simprocAttr]) (fun V0 Kb Nx=>?_)
 have fx:=trivial
 repeat' (first|refine stp [0,1,3,4,5,12,16,32] ?_|(refine stc (r1:=by first|exact pUnique r|exact pUnique a.x|exact pGives a.p r a.x hp|exact pFits a.p r a.x hp) (r2:=?_);refine rnx ?_)|refine WP.cn (fun hc=>?_) (fun hc=>?_)|((first|refine WP.dw (id:=6) 11 [0,1,3,4,5,12,16,32] ?_|refine WP.dw (id:=9) 11 [0,1,3,4,5,12,16,32] ?_);simp only [RQr_mk,List.drop_succ_cons,List.drop_zero,List.drop_nil])|fail)
 all_goals (refine retM1 ⟨congrArg (fun z:Int=>D.a (.v (.int .i64 z))) ?_,_,rfl⟩;simp only [*,if_true,Bool.false_eq_true,if_false])
theorem pgMade (a:Ak) (h:a.ok):DM Tryz.prog 123 [.a (.ptr 0 0)] [.cell (Ak.at a)] (.a (.v (.int .i64 (madeP a)))) [.cell (Ak.at a)]:=by
 have hp:=h.np
 unfold madeP
 cases hb:belowB a.p a.s.ty.cls a.x.cls with
 | true =>
  have hB:=pBelow a.p a.s.ty.cls a.x.cls hp
  rw [hb] at hB
  refine DM.intro Tryz.func123 rfl Tryz.ntmps123 rfl rfl rfl (by simp only [go_sem,simprocAttr]) (fun V0 Kb Nx=>?_)
  have fx:=trivial
  replace fx:=And.intro tyZ trivial
  repeat' (first|refine stp [0,2,3,9,16] ?_|(refine RS.sE ?_;refine rnx ?_)|(refine stc (r1:=by first|exact pUnique a.s.ty|exact pUnique a.x|exact hB|exact pMust true 15) (r2:=?_);refine rnx ?_)|refine WP.cn (fun hc=>?_) (fun hc=>?_)|((first|refine WP.dw (id:=4) 9 [0,2,3,9,16] ?_|refine WP.dw (id:=6) 14 [0,2,3,9,16] ?_);simp only [RQr_mk,List.drop_succ_cons,List.drop_zero,List.drop_nil])|fail)
  all_goals (refine retM1 ⟨congrArg (fun z:Int=>D.a (.v (.int .i64 z))) ?_,_,rfl⟩;simp only [*,if_true,Bool.false_eq_true,if_false,Bool.not_true])
 | false =>
  have hB:=pBelow a.p a.s.ty.cls a.x.cls hp
  rw [hb] at hB
  refine DM.intro Tryz.func123 rfl Tryz.ntmps123 rfl rfl rfl (by simp only [go_sem,simprocAttr]) (fun V0 Kb Nx=>?_)
  have fx:=trivial
  replace fx:=And.intro tyZ trivial
  repeat' (first|refine stp [0,2,3,9,16] ?_|(refine RS.sE ?_;refine rnx ?_)|(refine stc (r1:=by first|exact pUnique a.s.ty|exact pUnique a.x|exact hB|exact pMust false 15) (r2:=?_);refine rnx ?_)|refine WP.cn (fun hc=>?_) (fun hc=>?_)|((first|refine WP.dw (id:=4) 9 [0,2,3,9,16] ?_|refine WP.dw (id:=6) 14 [0,2,3,9,16] ?_);simp only [RQr_mk,List.drop_succ_cons,List.drop_zero,List.drop_nil])|fail)
  all_goals (refine retM1 ⟨congrArg (fun z:Int=>D.a (.v (.int .i64 z))) ?_,_,rfl⟩;simp only [*,if_true,Bool.false_eq_true,if_false,Bool.not_false])
theorem pgCast2 (t:Ty):DM Tryz.prog 183 [.a (.ptr 0 0)] [.cell (Ty.at t)] (.a (.v (.int .i64 (bif (t.kind==2||t.kind==3) then 0 else 14)))) [.cell (Ty.at t)]:=by
 refine DM.intro Tryz.func183 rfl Tryz.ntmps183 rfl rfl rfl (by simp only [go_sem,simprocAttr]) (fun V0 Kb Nx=>?_)
 have fx:=trivial
 repeat' (first|refine stp [0,1] ?_|(refine RS.pk ?_;refine rnx ?_)|(refine RS.gF ?_;refine rnx ?_)|(refine stc (r1:=by exact pMust (t.kind==2||t.kind==3) 14) (r2:=?_);refine rnx ?_)|fail)
 exact retM1 ⟨rfl,_,rfl⟩
theorem pgCast3 (t:Ty):DM Tryz.prog 184 [.a (.ptr 0 0)] [.cell (Ty.at t)] (.a (.v (.int .i64 (bif !uniqB t then 0 else 22)))) [.cell (Ty.at t)]:=by
 refine DM.intro Tryz.func184 rfl Tryz.ntmps184 rfl rfl rfl (by simp only [go_sem,simprocAttr]) (fun V0 Kb Nx=>?_)
 have fx:=trivial
 repeat' (first|refine stp [0,1] ?_|(refine stc (r1:=by first|exact pUnique t|exact pMust (!uniqB t) 22) (r2:=?_);refine rnx ?_)|fail)
 exact retM1 ⟨rfl,_,rfl⟩
def callP (a:Ak):Int:=match findMe a.p a.o.cls a.s.name with
 | none=>12
 | some f=>if ((f.m.params.length:Int) != (a.s.args.length:Int))=true then 16 else if (argsI a.p a.c a.m a.s.args f.m.params != 0)=true then argsI a.p a.c a.m a.s.args f.m.params else backP a f.m.ret
theorem pgCall (a:Ak) (h:a.ok) (hzz:sumOf Cs.sz a.p≤1048576):DM Tryz.prog 122 [.a (.ptr 0 0)] [.cell (Ak.at a)] (.a (.v (.int .i64 (callP a)))) [.cell (Ak.at a)]:=by
 have h3:=pmFind a.p a.o.cls a.s.name hzz
 have zd:=Fd.z0
 have hfl:∀f,findMe a.p a.o.cls a.s.name=some f→f.m.params.length≤1048576:=fun f hf=>by
  obtain⟨c,hc,hm⟩:=amongM_mem hf
  have hcs:c.sz≤1048576:=by have:=sumOf_mem (f:=Cs.sz) hc;omega
  obtain⟨y1,y2,y3,y4,y5,y6,y7,y8,y9⟩:=Cs.szH hcs
  have hms:f.m.sz≤1048576:=by have:=sumOf_mem (f:=Me.sz) hm;omega
  obtain⟨u1,u2,u3,u4,u5,u6⟩:=Me.szH hms
  omega
 unfold callP
 generalize findMe a.p a.o.cls a.s.name=Z at h3 hfl ⊢
 cases Z with
 | none =>
  dsimp only [fdS] at h3
  refine DM.intro Tryz.func122 rfl Tryz.ntmps122 rfl rfl rfl (by simp only [go_sem,simprocAttr]) (fun V0 Kb Nx=>?_)
  have fx:=trivial
  replace fx:=And.intro zd trivial
  repeat' (first|(refine RWL.fin ?_;try simp only [thenQ_n,blockQ_n])|refine stp [0,2,3,4,5,6,7,27,38,43,44,45,46,72] ?_|(refine RS.sE ?_;refine rnx ?_)|(refine RS.lC ?_;refine rnx ?_)|(refine RS.xC ?_;refine rnx ?_)|refine RWL.fr ?_|refine RWL.wt ?_|(refine stc (r1:=by exact h3) (r2:=?_);refine rnx ?_)|(refine' WP.dl (id:=1) [0,1,3,7,0,16,48,112,240,0,512,1536,3584,7680,16383,32767,65535,65535,0,393215,1048575] [0,2,3,4,5,6,7,27,38,43,44,45,46,72] [18,19] [(18,_),(19,_)] ?_)|refine RWL.re ?_ ?_|refine RdO.oz|refine RdO.oa ?_|refine RdO.oe ?_|refine RdO.on|refine WP.cn (fun hc=>?_) (fun hc=>?_)|((first|refine WP.dw (id:=4) 11 [0,2,3,4,5,6,7,27,38,43,44,45,46,72] ?_|refine WP.dw (id:=9) 22 [0,2,3,4,5,6,7,27,38,43,44,45,46,72] ?_);simp only [RQr_mk,List.drop_succ_cons,List.drop_zero,List.drop_nil])|fail)
  exact retM1 ⟨rfl,_,rfl⟩
 | some f =>
  have h4:=pgBack a f.m.ret h
  have hql:=hfl f rfl
  dsimp only [fdS] at h3
  refine DM.intro Tryz.func122 rfl Tryz.ntmps122 rfl rfl rfl (by simp only [go_sem,simprocAttr]) (fun V0 Kb Nx=>?_)
  have fx:=trivial
  replace fx:=And.intro zd trivial
  repeat' (first|(refine RWL.fin ?_;try simp only [thenQ_n,blockQ_n])|refine stp [0,2,3,4,5,6,7,27,38,43,44,45,46,72] ?_|(refine RS.sE ?_;refine rnx ?_)|(refine RS.lC ?_;refine rnx ?_)|(refine RS.xC ?_;refine rnx ?_)|refine RWL.fr ?_|refine RWL.wt ?_|(refine stc (r1:=by exact h3) (r2:=?_);refine rnx ?_)|(refine RS.cM [0] (hp:=by exact h4) (h:=?_);refine rnx ?_)|(refine' WP.dl (id:=1) [0,1,3,7,0,16,48,112,240,0,512,1536,3584,7680,16383,32767,65535,65535,0,393215,1048575] [0,2,3,4,5,6,7,27,38,43,44,45,46,72] [18,19] [(18,_),(19,_)] ?_)|(refine RWL.cM [0] (hp:=by exact h4) (h:=?_))|refine RWL.re ?_ ?_|refine RdO.oz|refine RdO.oa ?_|refine RdO.oe ?_|refine RdO.on|refine WP.cn (fun hc=>?_) (fun hc=>?_)|((first|refine WP.dw (id:=4) 11 [0,2,3,4,5,6,7,27,38,43,44,45,46,72] ?_|refine WP.dw (id:=9) 22 [0,2,3,4,5,6,7,27,38,43,44,45,46,72] ?_);simp only [RQr_mk,List.drop_succ_cons,List.drop_zero,List.drop_nil])|fail)
  ·refine retM1 ⟨congrArg (fun z:Int=>D.a (.v (.int .i64 z))) ?_,_,rfl⟩
   rw [if_pos hc]
  rw [if_neg (by rw [hc];exact Bool.false_ne_true)]
  have hpl:f.m.params.length=a.s.args.length:=by have h8:=hc;simp at h8;omega
  have haz:=a.s.arg_sz
  have hnz:=h.nz
  have hpp:=h.np
  have hcc:=h.nc
  have haa:=h.na
  have hbb:=h.nl
  clear hc h3
  have hal:a.s.args.length≤1048576:=by omega
  generalize hA:a.s.args=ax at hpl hal haz
  generalize hB:f.m.params=bx at hpl
  refine WP.loopX (α:={ k:Nat // k≤ax.length∧argsI a.p a.c a.m ax bx=argsI a.p a.c a.m (ax.drop k) (bx.drop k) }) (fun y=>[(0,.a (.ptr 0 0)),(3,.a (.ptr 1 0)),(43,.a (.sl (ax.map Ex.at))),(44,.a (.v (.int .i64 (ax.length:Nat)))),(45,.a (.v (.int .i64 (y.1:Nat))))]) (fun y=>[.cell (Ak.at a),.cell (Fd.at f)]) (fun y=>ax.length-y.1) ⟨0,by omega,rfl⟩ (by simp only [Agree,hA,go_sem,simprocAttr];first|done|rfl) rfl ?_
  rintro⟨k,hk,hinv⟩
  dsimp only at hk hinv ⊢
  by_cases hlt:k<ax.length
  ·have hlt2:decide ((k:Int)<((ax.length:Nat):Int))=true:=decide_eq_true (by omega)
   obtain⟨z,hz⟩:∃z,ax[k]? = some z:=⟨_,List.getElem?_eq_getElem hlt⟩
   have hzm:z∈ax:=List.mem_of_getElem? hz
   have hzt:=take_snocA hz
   have hix:∀q2,ixD (some 4) q2 (.a (.sl (ax.map Ex.at))) (.a (.v (.int .i64 (k:Int))))=some (.a (.ref (Ex.at z) 0)):=fun q2=>ixD_at rfl (by rw [List.getElem?_map,hz];rfl) (by simp only [go_sem])
   have hwu:=wrap64n (k:=k) (by omega)
   obtain⟨v,hv⟩:∃v,bx[k]? = some v:=⟨_,List.getElem?_eq_getElem (by omega)⟩
   have hjx:∀q2,ixD (some 13) q2 (.a (.sl (bx.map Vr.at))) (.a (.v (.int .i64 (k:Nat))))=some (.a (.ref (Vr.at v) 0)):=fun q2=>ixD_at rfl (by rw [List.getElem?_map,hv];rfl) (by simp only [go_sem])
   have hd1:ax.drop k=z::ax.drop (k+1):=by rw [List.drop_eq_getElem_cons hlt];congr 1;exact (List.getElem?_eq_some_iff.1 hz).2
   have hd2:bx.drop k=v::bx.drop (k+1):=by rw [List.drop_eq_getElem_cons (by omega)];congr 1;exact (List.getElem?_eq_some_iff.1 hv).2
   rw [hd1,hd2,argsI] at hinv
   have h7:=pgSuits a.p a.c a.m z v.ty hpp hcc haa hbb (Nat.le_trans (haz z hzm) hnz)
   generalize suitsI a.p a.c a.m z v.ty=S at h7 hinv
   replace fx:=And.intro hA (And.intro hB (And.intro hlt2 (And.intro hix (And.intro hjx (And.intro hwu trivial)))))
   repeat' (first|(refine RWL.fin ?_;try simp only [thenQ_n,blockQ_n])|refine stp [0,2,3,4,5,6,7,27,38,43,44,45,46,72] ?_|(refine RS.sE ?_;refine rnx ?_)|(refine RS.lC ?_;refine rnx ?_)|(refine RS.xC ?_;refine rnx ?_)|refine RWL.fr ?_|refine RWL.wt ?_|(refine stc (r1:=by exact h7) (r2:=?_);refine rnx ?_)|(refine RS.cM [0] (hp:=by exact h4) (h:=?_);refine rnx ?_)|(refine' WP.dl (id:=1) [0,1,3,7,0,16,48,112,240,0,512,1536,3584,7680,16383,32767,65535,65535,0,393215,1048575] [0,2,3,4,5,6,7,27,38,43,44,45,46,72] [18,19] [(18,_),(19,_)] ?_)|(refine RWL.cM [0] (hp:=by exact h4) (h:=?_))|refine RWL.re ?_ ?_|refine RdO.oz|refine RdO.oa ?_|refine RdO.oe ?_|refine RdO.on|refine WP.cn (fun hc=>?_) (fun hc=>?_)|((first|refine WP.dw (id:=4) 11 [0,2,3,4,5,6,7,27,38,43,44,45,46,72] ?_|refine WP.dw (id:=9) 22 [0,2,3,4,5,6,7,27,38,43,44,45,46,72] ?_);simp only [RQr_mk,List.drop_succ_cons,List.drop_zero,List.drop_nil])|fail)
   ·have hS:argsI a.p a.c a.m ax bx=S:=by rw [hinv,if_pos hc]
    refine retM1 ⟨congrArg (fun z:Int=>D.a (.v (.int .i64 z))) ?_,_,rfl⟩
    rw [hS,if_pos hc]
   ·refine⟨⟨k+1,by omega,by rw [hinv,if_neg (by rw [hc];exact Bool.false_ne_true)]⟩,_,by dsimp only;omega,by simp only [Agree,go_sem,simprocAttr],rfl,by simp only [nrE,nrD,List.all_cons,List.all_nil,go_sem,simprocAttr],by simp only [nrE,nrD,List.all_cons,List.all_nil,go_sem,simprocAttr,Ak.nr,Fd.nr]⟩
  ·obtain rfl:k=ax.length:=by omega
   have hlt2:decide ((ax.length:Int)<(ax.length:Int))=false:=decide_eq_false (by omega)
   rw [List.drop_length] at hinv
   have h0:argsI a.p a.c a.m ax bx=0:=by rw [hinv];cases bx.drop ax.length<;>rfl
   rw [h0,if_neg (by decide)]
   replace fx:=And.intro hA (And.intro hlt2 trivial)
   repeat' (first|(refine RWL.fin ?_;try simp only [thenQ_n,blockQ_n])|refine stp [0,2,3,4,5,6,7,27,38,43,44,45,46,72] ?_|(refine RS.sE ?_;refine rnx ?_)|(refine RS.lC ?_;refine rnx ?_)|(refine RS.xC ?_;refine rnx ?_)|refine RWL.fr ?_|refine RWL.wt ?_|(refine RS.cM [0] (hp:=by exact h4) (h:=?_);refine rnx ?_)|(refine' WP.dl (id:=1) [0,1,3,7,0,16,48,112,240,0,512,1536,3584,7680,16383,32767,65535,65535,0,393215,1048575] [0,2,3,4,5,6,7,27,38,43,44,45,46,72] [18,19] [(18,_),(19,_)] ?_)|(refine RWL.cM [0] (hp:=by exact h4) (h:=?_))|refine RWL.re ?_ ?_|refine RdO.oz|refine RdO.oa ?_|refine RdO.oe ?_|refine RdO.on|refine WP.cn (fun hc=>?_) (fun hc=>?_)|((first|refine WP.dw (id:=4) 11 [0,2,3,4,5,6,7,27,38,43,44,45,46,72] ?_|refine WP.dw (id:=9) 22 [0,2,3,4,5,6,7,27,38,43,44,45,46,72] ?_);simp only [RQr_mk,List.drop_succ_cons,List.drop_zero,List.drop_nil])|fail)
   exact retM1 ⟨rfl,_,rfl⟩
theorem pgAsk1 (a:Ak) (t:Ty) (h:a.ok):DM Tryz.prog 126 [.a (.ptr 2 0),.a (.ptr 1 0)] [.cell (Ak.at a),.cell (Ty.at t),.cell [.ptr 0 0]] (.a (.v (.int .i64 (givesI a.p t a.x)))) [.cell (Ak.at a),.cell (Ty.at t),.cell [.ptr 0 0]]:=by
 refine DM.intro Tryz.func126 rfl Tryz.ntmps126 rfl rfl rfl (by simp only [go_sem,simprocAttr]) (fun V0 Kb Nx=>?_)
 have fx:=trivial
 repeat' (first|refine stp [0,1,2] ?_|(refine stc (r1:=by exact pGives a.p t a.x h.np) (r2:=?_);refine rnx ?_)|((first|refine WP.dw (id:=1) 11 [0,1,2] ?_);simp only [RQr_mk,List.drop_succ_cons,List.drop_zero,List.drop_nil])|fail)
 exact retM1 ⟨rfl,_,rfl⟩
theorem pgCast1 (a:Ak):DM Tryz.prog 182 [.a (.ptr 1 0)] [.cell (Ak.at a),.cell [.ptr 0 0]] (.a (.v (.int .i64 (bif !uniqB a.s.ty then 0 else 22)))) [.cell (Ak.at a),.cell [.ptr 0 0]]:=by
 refine DM.intro Tryz.func182 rfl Tryz.ntmps182 rfl rfl rfl (by simp only [go_sem,simprocAttr]) (fun V0 Kb Nx=>?_)
 have fx:=trivial
 repeat' (first|refine stp [0,1] ?_|(refine stc (r1:=by first|exact pUnique a.s.ty|exact pMust (!uniqB a.s.ty) 22) (r2:=?_);refine rnx ?_)|fail)
 exact retM1 ⟨rfl,_,rfl⟩
theorem pgFitsS (a:Ak):DM Tryz.prog 120 [.a (.ptr 0 0),.a (.ptr 0 29),.a (.ptr 0 48)] [.cell (Ak.at a)] (.a (.fn 178 [.ptr 1 0,.ptr 2 0,.ptr 3 0])) [.cell (Ak.at a),.cell [.ptr 0 0],.cell [.ptr 0 29],.cell [.ptr 0 48]]:=by
 refine DM.intro Tryz.func120 rfl Tryz.ntmps120 rfl rfl rfl (by simp only [go_sem,simprocAttr]) (fun V0 Kb Nx=>?_)
 have fx:=trivial
 repeat' (first|refine stp [0,1,2,3,4,5,6] ?_|fail)
 exact retM1 ⟨rfl,[],rfl⟩
theorem pgFitsS1 (a:Ak) (h:a.ok):DM Tryz.prog 178 [.a (.ptr 1 0),.a (.ptr 2 0),.a (.ptr 3 0)] [.cell (Ak.at a),.cell [.ptr 0 0],.cell [.ptr 0 29],.cell [.ptr 0 48]] (.a (.v (.int .i64 (fitsI a.p a.s.ty a.x)))) [.cell (Ak.at a),.cell [.ptr 0 0],.cell [.ptr 0 29],.cell [.ptr 0 48]]:=by
 refine DM.intro Tryz.func178 rfl Tryz.ntmps178 rfl rfl rfl (by simp only [go_sem,simprocAttr]) (fun V0 Kb Nx=>?_)
 have fx:=trivial
 repeat' (first|refine stp [0,1,2,3] ?_|(refine stc (r1:=by exact pFits a.p a.s.ty a.x h.np) (r2:=?_);refine rnx ?_)|((first|refine WP.dw (id:=1) 12 [0,1,2,3] ?_);simp only [RQr_mk,List.drop_succ_cons,List.drop_zero,List.drop_nil])|fail)
 exact retM1 ⟨rfl,_,rfl⟩
def castI (a:Ak):Int×Ty:=if uniqB a.s.ty=true then (22,Ty.zero) else if ((oneT a.c a.m a.s.e).2 != 0)=true then ((oneT a.c a.m a.s.e).2,(oneT a.c a.m a.s.e).1) else if (!((oneT a.c a.m a.s.e).1.kind==2||(oneT a.c a.m a.s.e).1.kind==3))=true then (14,(oneT a.c a.m a.s.e).1) else if uniqB (oneT a.c a.m a.s.e).1=true then (22,(oneT a.c a.m a.s.e).1) else (fitsI a.p a.s.ty a.x,(oneT a.c a.m a.s.e).1)
theorem allCast (a:Ak) (h:a.ok):DM Tryz.prog 117 [.a (.cs 8 0 5)] [.cell (Ak.at a),.cell [.ptr 0 0],.cell (Ty.at Ty.zero),.cell [.ptr 0 0],.cell [.ptr 2 0],.cell [.ptr 0 0],.cell [.ptr 0 29],.cell [.ptr 0 48],.cell [.fn 182 [.ptr 1 0],.fn 177 [.ptr 3 0,.ptr 4 0],.fn 183 [.ptr 2 0],.fn 184 [.ptr 2 0],.fn 178 [.ptr 5 0,.ptr 6 0,.ptr 7 0]]] (.a (.v (.int .i64 (castI a).1)))
  [.cell (Ak.at a),.cell [.ptr 0 0],.cell (Ty.at (castI a).2),.cell [.ptr 0 0],.cell [.ptr 2 0],.cell [.ptr 0 0],.cell [.ptr 0 29],.cell [.ptr 0 48],.cell [.fn 182 [.ptr 1 0],.fn 177 [.ptr 3 0,.ptr 4 0],.fn 183 [.ptr 2 0],.fn 184 [.ptr 2 0],.fn 178 [.ptr 5 0,.ptr 6 0,.ptr 7 0]]]:=by
 have h1':=pgCast1 a
 have h2':=pgValue1 a Ty.zero h
 have h5':=pgFitsS1 a h
 refine pAll 8 [.fn 182 [.ptr 1 0],.fn 177 [.ptr 3 0,.ptr 4 0],.fn 183 [.ptr 2 0],.fn 184 [.ptr 2 0],.fn 178 [.ptr 5 0,.ptr 6 0,.ptr 7 0]] _ _ _ (by decide) rfl rfl (by simp only [go_sem,simprocAttr]) ?_
 unfold castI
 generalize oneT a.c a.m a.s.e=R at h2' ⊢
 have h3':=pgCast2 R.1
 have h4':=pgCast3 R.1
 refine .one rfl (DM.lift [0,1] h1') (fun h1=>?_) fun h1=>?_
 ·cases hk:uniqB a.s.ty with
  | false=>rw [hk] at h1;cases h1
  | true=>rw [if_pos rfl];exact⟨rfl,rfl⟩
 have hk:uniqB a.s.ty=false:=by cases hk:uniqB a.s.ty<;>rw [hk] at h1<;>first|rfl|cases h1
 rw [if_neg (by rw [hk];exact Bool.false_ne_true)]
 refine .one rfl (DM.lift [0,2,3,4] h2') (fun h1=>?_) fun h1=>?_
 ·rw [if_pos h1];exact⟨rfl,rfl⟩
 rw [if_neg (by rw [h1];exact Bool.false_ne_true)]
 refine .one rfl (DM.lift [2] h3') (fun h1=>?_) fun h1=>?_
 ·cases hk:(R.1.kind==2||R.1.kind==3) with
  | true=>rw [hk] at h1;cases h1
  | false=>rw [if_pos (by decide)];exact⟨rfl,rfl⟩
 have hk:(R.1.kind==2||R.1.kind==3)=true:=by cases hk:(R.1.kind==2||R.1.kind==3)<;>rw [hk] at h1<;>first|rfl|cases h1
 rw [if_neg (by rw [hk];decide)]
 refine .one rfl (DM.lift [2] h4') (fun h1=>?_) fun h1=>?_
 ·cases hk:uniqB R.1 with
  | false=>rw [hk] at h1;cases h1
  | true=>rw [if_pos rfl];exact⟨rfl,rfl⟩
 have hk:uniqB R.1=false:=by cases hk:uniqB R.1<;>rw [hk] at h1<;>first|rfl|cases h1
 rw [if_neg (by rw [hk];exact Bool.false_ne_true)]
 refine .one rfl (DM.lift [0,5,6,7] h5') (fun h1=>⟨rfl,rfl⟩) fun h1=>?_
 have h0:fitsI a.p a.s.ty a.x=0:=by simpa using h1
 rw [h0]
 exact .nil _
theorem pgCast (a:Ak) (h:a.ok):DM Tryz.prog 124 [.a (.ptr 0 0)] [.cell (Ak.at a)] (.a (.v (.int .i64 (castI a).1))) [.cell (Ak.at a)]:=by
 have hA:=allCast a h
 generalize castI a=R at hA ⊢
 refine DM.intro Tryz.func124 rfl Tryz.ntmps124 rfl rfl rfl (by simp only [go_sem,simprocAttr]) (fun V0 Kb Nx=>?_)
 have fx:=trivial
 replace fx:=And.intro tyZ trivial
 repeat' (first|(refine RWL.fin ?_;try simp only [thenQ_n,blockQ_n])|refine stp [0,1,2,3] ?_|(refine RS.li ?_;refine rnx ?_)|(refine RS.bC ?_;refine rnx ?_)|refine RWL.fr ?_|refine RWL.wt ?_|refine RWL.lS ?_|refine RWL.bC ?_|(refine RS.cM [0,2] (hp:=by exact pgValue a Ty.zero) (h:=?_);refine rnx ?_)|(refine RS.cM [0] (hp:=by exact pgFitsS a) (h:=?_);refine rnx ?_)|(refine RS.cM [0,1,2,3,4,5,6,7,8] (hp:=by exact hA) (h:=?_);refine rnx ?_)|(refine' WP.dl (id:=2) [0,0,2,0,0,0,0,64,192,448,0,1024,3072,8166,16383,32767,65535] [0,1,2,3] [2,13,14,15] [(2,_),(13,_),(14,_),(15,_)] ?_)|(refine RWL.cM [0,2] (hp:=by exact pgValue a Ty.zero) (h:=?_))|(refine RWL.cM [0] (hp:=by exact pgFitsS a) (h:=?_))|(refine RWL.cM [0,1,2,3,4,5,6,7,8] (hp:=by exact hA) (h:=?_))|refine RWL.re ?_ ?_|refine RdO.oz|refine RdO.oa ?_|refine RdO.oe ?_|refine RdO.on|fail)
 exact retM1 ⟨rfl,_,rfl⟩
theorem Ak.ok_ob {a:Ak} (h:a.ok):(obI a).2.ok:=by
 obtain⟨h1,h2,h3,h4,h5⟩:=obI_keep a
 exact⟨by rw [h1];exact h.np,by rw [h2];exact h.nc,by rw [h3];exact h.na,by rw [h3];exact h.nl,by rw [h4];exact h.nz⟩
theorem all2 {a b c:Ak} {f g:FuncId} {z1 z2:Int} (h1:DM Tryz.prog f [.a (.ptr 0 0)] [.cell (Ak.at a)] (.a (.v (.int .i64 z1))) [.cell (Ak.at b)]) (h2:DM Tryz.prog g [.a (.ptr 0 0)] [.cell (Ak.at b)] (.a (.v (.int .i64 z2))) [.cell (Ak.at c)]):DM Tryz.prog 117 [.a (.cs 4 0 2)] [.cell (Ak.at a),.cell [.ptr 0 0],.cell (Ty.at Ty.zero),.cell (Ty.at Ty.zero),.cell [.fm f [.ptr 0 0],.fm g [.ptr 0 0]]] (.a (.v (.int .i64 (if (z1 != 0)=true then z1 else z2))))
  [.cell (Ak.at (if (z1 != 0)=true then b else c)),.cell [.ptr 0 0],.cell (Ty.at Ty.zero),.cell (Ty.at Ty.zero),.cell [.fm f [.ptr 0 0],.fm g [.ptr 0 0]]]:=by
 refine pAll 4 [.fm f [.ptr 0 0],.fm g [.ptr 0 0]] _ _ _ (Nat.le_of_ble_eq_true rfl) rfl rfl (by simp only [go_sem,simprocAttr]) ?_
 refine .one rfl (DM.lift [0] h1) (fun h=>?_) fun h=>?_
 ·simp only [h,if_true];first|exact⟨trivial,rfl⟩|exact⟨rfl,rfl⟩|trivial
 simp only [h,Bool.false_eq_true,if_false]
 refine .one rfl (DM.lift [0] h2) (fun h=>⟨rfl,rfl⟩) fun h=>?_
 have h0:z2=0:=by simpa using h
 rw [h0]
 exact .nil _
theorem all3 {a b c d:Ak} {f g k:FuncId} {z1 z2 z3:Int} (h1:DM Tryz.prog f [.a (.ptr 0 0)] [.cell (Ak.at a)] (.a (.v (.int .i64 z1))) [.cell (Ak.at b)]) (h2:DM Tryz.prog g [.a (.ptr 0 0)] [.cell (Ak.at b)] (.a (.v (.int .i64 z2))) [.cell (Ak.at c)]) (h3:DM Tryz.prog k [.a (.ptr 0 0)] [.cell (Ak.at c)] (.a (.v (.int .i64 z3))) [.cell (Ak.at d)]):DM Tryz.prog 117 [.a (.cs 4 0 3)] [.cell (Ak.at a),.cell [.ptr 0 0],.cell (Ty.at Ty.zero),.cell (Ty.at Ty.zero),.cell [.fm f [.ptr 0 0],.fm g [.ptr 0 0],.fm k [.ptr 0 0]]] (.a (.v (.int .i64 (if (z1 != 0)=true then z1 else if (z2 != 0)=true then z2 else z3))))
  [.cell (Ak.at (if (z1 != 0)=true then b else if (z2 != 0)=true then c else d)),.cell [.ptr 0 0],.cell (Ty.at Ty.zero),.cell (Ty.at Ty.zero),.cell [.fm f [.ptr 0 0],.fm g [.ptr 0 0],.fm k [.ptr 0 0]]]:=by
 refine pAll 4 [.fm f [.ptr 0 0],.fm g [.ptr 0 0],.fm k [.ptr 0 0]] _ _ _ (Nat.le_of_ble_eq_true rfl) rfl rfl (by simp only [go_sem,simprocAttr]) ?_
 refine .one rfl (DM.lift [0] h1) (fun h=>?_) fun h=>?_
 ·simp only [h,if_true];first|exact⟨trivial,rfl⟩|exact⟨rfl,rfl⟩|trivial
 simp only [h,Bool.false_eq_true,if_false]
 refine .one rfl (DM.lift [0] h2) (fun h=>?_) fun h=>?_
 ·simp only [h,if_true];first|exact⟨trivial,rfl⟩|exact⟨rfl,rfl⟩|trivial
 simp only [h,Bool.false_eq_true,if_false]
 refine .one rfl (DM.lift [0] h3) (fun h=>⟨rfl,rfl⟩) fun h=>?_
 have h0:z3=0:=by simpa using h
 rw [h0]
 exact .nil _
theorem pAskNew (a:Ak) (h:a.ok) (hk:a.s.kind=5):∃b,DM Tryz.prog 60 [.a (.ptr 0 0)] [.cell (Ak.at a)] (.a (.v (.int .i64 (if ((tgt a).1 != 0)=true then (tgt a).1 else madeP (tgt a).2)))) [.cell (Ak.at b)]:=by
 have hA:=all2 (pgTarget a h) (pgMade _ (Ak.ok_tgt h))
 refine⟨if ((tgt a).1 != 0)=true then (tgt a).2 else (tgt a).2,?_⟩
 generalize (if ((tgt a).1 != 0)=true then (tgt a).1 else madeP (tgt a).2)=z at hA ⊢
 generalize (if ((tgt a).1 != 0)=true then (tgt a).2 else (tgt a).2)=b at hA ⊢
 refine DM.intro Tryz.func60 rfl Tryz.ntmps60 rfl rfl rfl (by simp only [go_sem,simprocAttr]) (fun V0 Kb Nx=>?_)
 have fx:=trivial
 replace fx:=And.intro hk (And.intro tyZ trivial)
 repeat' (first|refine stp [0,1,2,3,4,9,10,23,38,50,57,72,80,88,102,115] ?_|(refine RS.li ?_;refine rnx ?_)|(refine RS.bC ?_;refine rnx ?_)|(refine RS.mb ?_;refine rnx ?_)|(refine RS.cM [0,1,2,3,4] (hp:=by exact hA) (h:=?_);refine rnx ?_)|refine WP.cn (fun hc=>?_) (fun hc=>?_)|((first|refine WP.dw (id:=4) 9 [0,1,2,3,4,9,10,23,38,50,57,72,80,88,102,115] ?_|refine WP.dw (id:=6) 11 [0,1,2,3,4,9,10,23,38,50,57,72,80,88,102,115] ?_|refine WP.dw (id:=8) 8 [0,1,2,3,4,9,10,23,38,50,57,72,80,88,102,115] ?_|refine WP.dw (id:=18) 10 [0,1,2,3,4,9,10,23,38,50,57,72,80,88,102,115] ?_|refine WP.dw (id:=20) 9 [0,1,2,3,4,9,10,23,38,50,57,72,80,88,102,115] ?_);simp only [RQr_mk,List.drop_succ_cons,List.drop_zero,List.drop_nil])|fail)
 exact retM1 ⟨rfl,_,rfl⟩
theorem pAskCast (a:Ak) (h:a.ok) (hk:a.s.kind=6):∃b,DM Tryz.prog 60 [.a (.ptr 0 0)] [.cell (Ak.at a)] (.a (.v (.int .i64 (if ((tgt a).1 != 0)=true then (tgt a).1 else (castI (tgt a).2).1)))) [.cell (Ak.at b)]:=by
 have hA:=all2 (pgTarget a h) (pgCast _ (Ak.ok_tgt h))
 refine⟨if ((tgt a).1 != 0)=true then (tgt a).2 else (tgt a).2,?_⟩
 generalize (if ((tgt a).1 != 0)=true then (tgt a).1 else (castI (tgt a).2).1)=z at hA ⊢
 generalize (if ((tgt a).1 != 0)=true then (tgt a).2 else (tgt a).2)=b at hA ⊢
 refine DM.intro Tryz.func60 rfl Tryz.ntmps60 rfl rfl rfl (by simp only [go_sem,simprocAttr]) (fun V0 Kb Nx=>?_)
 have fx:=trivial
 replace fx:=And.intro hk (And.intro tyZ trivial)
 repeat' (first|refine stp [0,1,2,3,4,9,10,23,38,50,57,72,80,88,102,115] ?_|(refine RS.li ?_;refine rnx ?_)|(refine RS.bC ?_;refine rnx ?_)|(refine RS.mb ?_;refine rnx ?_)|(refine RS.cM [0,1,2,3,4] (hp:=by exact hA) (h:=?_);refine rnx ?_)|refine WP.cn (fun hc=>?_) (fun hc=>?_)|((first|refine WP.dw (id:=4) 9 [0,1,2,3,4,9,10,23,38,50,57,72,80,88,102,115] ?_|refine WP.dw (id:=6) 11 [0,1,2,3,4,9,10,23,38,50,57,72,80,88,102,115] ?_|refine WP.dw (id:=8) 8 [0,1,2,3,4,9,10,23,38,50,57,72,80,88,102,115] ?_|refine WP.dw (id:=18) 10 [0,1,2,3,4,9,10,23,38,50,57,72,80,88,102,115] ?_|refine WP.dw (id:=20) 9 [0,1,2,3,4,9,10,23,38,50,57,72,80,88,102,115] ?_);simp only [RQr_mk,List.drop_succ_cons,List.drop_zero,List.drop_nil])|fail)
 exact retM1 ⟨rfl,_,rfl⟩
theorem pAskCallN (a:Ak) (h:a.ok) (hzz:sumOf Cs.sz a.p≤1048576) (hk:a.s.kind=4) (hx:(a.s.x==[])=true):∃b,DM Tryz.prog 60 [.a (.ptr 0 0)] [.cell (Ak.at a)] (.a (.v (.int .i64 (if ((obI a).1 != 0)=true then (obI a).1 else callP (obI a).2)))) [.cell (Ak.at b)]:=by
 have hA:=all2 (pgObject a h) (pgCall _ (Ak.ok_ob h) (by rw [(obI_keep a).1];exact hzz))
 refine⟨if ((obI a).1 != 0)=true then (obI a).2 else (obI a).2,?_⟩
 generalize (if ((obI a).1 != 0)=true then (obI a).1 else callP (obI a).2)=z at hA ⊢
 generalize (if ((obI a).1 != 0)=true then (obI a).2 else (obI a).2)=b at hA ⊢
 refine DM.intro Tryz.func60 rfl Tryz.ntmps60 rfl rfl rfl (by simp only [go_sem,simprocAttr]) (fun V0 Kb Nx=>?_)
 have fx:=trivial
 replace fx:=And.intro hk (And.intro hx (And.intro tyZ trivial))
 repeat' (first|refine stp [0,1,2,3,4,9,10,23,38,50,57,72,80,88,102,115] ?_|(refine RS.li ?_;refine rnx ?_)|(refine RS.bC ?_;refine rnx ?_)|(refine RS.mb ?_;refine rnx ?_)|(refine RS.cM [0,1,2,3,4] (hp:=by exact hA) (h:=?_);refine rnx ?_)|refine WP.cn (fun hc=>?_) (fun hc=>?_)|((first|refine WP.dw (id:=4) 9 [0,1,2,3,4,9,10,23,38,50,57,72,80,88,102,115] ?_|refine WP.dw (id:=6) 11 [0,1,2,3,4,9,10,23,38,50,57,72,80,88,102,115] ?_|refine WP.dw (id:=8) 8 [0,1,2,3,4,9,10,23,38,50,57,72,80,88,102,115] ?_|refine WP.dw (id:=18) 10 [0,1,2,3,4,9,10,23,38,50,57,72,80,88,102,115] ?_|refine WP.dw (id:=20) 9 [0,1,2,3,4,9,10,23,38,50,57,72,80,88,102,115] ?_);simp only [RQr_mk,List.drop_succ_cons,List.drop_zero,List.drop_nil])|fail)
 exact retM1 ⟨rfl,_,rfl⟩
theorem pAskCallX (a:Ak) (h:a.ok) (hzz:sumOf Cs.sz a.p≤1048576) (hk:a.s.kind=4) (hx:(a.s.x==[])=false):∃b,DM Tryz.prog 60 [.a (.ptr 0 0)] [.cell (Ak.at a)] (.a (.v (.int .i64 (if ((tgt a).1 != 0)=true then (tgt a).1 else if ((obI (tgt a).2).1 != 0)=true then (obI (tgt a).2).1 else callP (obI (tgt a).2).2)))) [.cell (Ak.at b)]:=by
 have hA:=all3 (pgTarget a h) (pgObject _ (Ak.ok_tgt h)) (pgCall _ (Ak.ok_ob (Ak.ok_tgt h)) (by rw [(obI_keep _).1,(tgt_keep a).1];exact hzz))
 refine⟨if ((tgt a).1 != 0)=true then (tgt a).2 else if ((obI (tgt a).2).1 != 0)=true then (obI (tgt a).2).2 else (obI (tgt a).2).2,?_⟩
 generalize (if ((tgt a).1 != 0)=true then (tgt a).1 else if ((obI (tgt a).2).1 != 0)=true then (obI (tgt a).2).1 else callP (obI (tgt a).2).2)=z at hA ⊢
 generalize (if ((tgt a).1 != 0)=true then (tgt a).2 else if ((obI (tgt a).2).1 != 0)=true then (obI (tgt a).2).2 else (obI (tgt a).2).2)=b at hA ⊢
 refine DM.intro Tryz.func60 rfl Tryz.ntmps60 rfl rfl rfl (by simp only [go_sem,simprocAttr]) (fun V0 Kb Nx=>?_)
 have fx:=trivial
 replace fx:=And.intro hk (And.intro hx (And.intro tyZ trivial))
 repeat' (first|refine stp [0,1,2,3,4,9,10,23,38,50,57,72,80,88,102,115] ?_|(refine RS.li ?_;refine rnx ?_)|(refine RS.bC ?_;refine rnx ?_)|(refine RS.mb ?_;refine rnx ?_)|(refine RS.cM [0,1,2,3,4] (hp:=by exact hA) (h:=?_);refine rnx ?_)|refine WP.cn (fun hc=>?_) (fun hc=>?_)|((first|refine WP.dw (id:=4) 9 [0,1,2,3,4,9,10,23,38,50,57,72,80,88,102,115] ?_|refine WP.dw (id:=6) 11 [0,1,2,3,4,9,10,23,38,50,57,72,80,88,102,115] ?_|refine WP.dw (id:=8) 8 [0,1,2,3,4,9,10,23,38,50,57,72,80,88,102,115] ?_|refine WP.dw (id:=18) 10 [0,1,2,3,4,9,10,23,38,50,57,72,80,88,102,115] ?_|refine WP.dw (id:=20) 9 [0,1,2,3,4,9,10,23,38,50,57,72,80,88,102,115] ?_);simp only [RQr_mk,List.drop_succ_cons,List.drop_zero,List.drop_nil])|fail)
 exact retM1 ⟨rfl,_,rfl⟩
def moveI (a:Ak):Int×Ak×Ty :=
 if ((tgt a).1 != 0)=true then ((tgt a).1,(tgt a).2,Ty.zero) else if (vrE (tgt a).2 a.s.y != 0)=true then (vrE (tgt a).2 a.s.y,(tgt a).2,vrT (tgt a).2 a.s.y) else (givesI (tgt a).2.p (vrT (tgt a).2 a.s.y) (tgt a).2.x,(tgt a).2,vrT (tgt a).2 a.s.y)
theorem allMove (a:Ak) (h:a.ok):DM Tryz.prog 117 [.a (.cs 7 0 3)] [.cell (Ak.at a),.cell [.ptr 0 0],.cell (Ty.at Ty.zero),.cell (Ty.at Ty.zero),.cell [.ptr 0 0],.cell [.v (.string (bs a.s.y))],.cell [.ptr 2 0],.cell [.fm 118 [.ptr 0 0],.fn 185 [.ptr 4 0,.ptr 5 0,.ptr 6 0],.fn 126 [.ptr 1 0,.ptr 2 0]]] (.a (.v (.int .i64 (moveI a).1)))
  [.cell (Ak.at (moveI a).2.1),.cell [.ptr 0 0],.cell (Ty.at (moveI a).2.2),.cell (Ty.at Ty.zero),.cell [.ptr 0 0],.cell [.v (.string (bs a.s.y))],.cell [.ptr 2 0],.cell [.fm 118 [.ptr 0 0],.fn 185 [.ptr 4 0,.ptr 5 0,.ptr 6 0],.fn 126 [.ptr 1 0,.ptr 2 0]]]:=by
 have ht:=pgTarget a h
 have hv:=pgVarT1 (tgt a).2 Ty.zero a.s.y (Ak.ok_tgt h)
 have hb:(if placeI (tgt a).2.m a.s.y<0 then Ty.zero else (typeT (tgt a).2.c (tgt a).2.m a.s.y).1)=vrT (tgt a).2 a.s.y:=rfl
 rw [hb] at hv
 have hg:=pgAsk1 (tgt a).2 (vrT (tgt a).2 a.s.y) (Ak.ok_tgt h)
 refine pAll 7 [.fm 118 [.ptr 0 0],.fn 185 [.ptr 4 0,.ptr 5 0,.ptr 6 0],.fn 126 [.ptr 1 0,.ptr 2 0]] _ _ _ (Nat.le_of_ble_eq_true rfl) rfl rfl (by simp only [go_sem,simprocAttr]) ?_
 unfold moveI
 generalize vrE (tgt a).2 a.s.y=e1 at hv ⊢
 generalize vrT (tgt a).2 a.s.y=t at hv hg ⊢
 generalize tgt a=T at ht hv hg ⊢
 refine .one rfl (DM.lift [0] ht) (fun h1=>?_) fun h1=>?_
 ·rw [if_pos h1];exact⟨rfl,rfl⟩
 rw [if_neg (by rw [h1];exact Bool.false_ne_true)]
 refine .one rfl (DM.lift [0,2,4,5,6] hv) (fun h2=>?_) fun h2=>?_
 ·rw [if_pos h2];exact⟨rfl,rfl⟩
 rw [if_neg (by rw [h2];exact Bool.false_ne_true)]
 refine .one rfl (DM.lift [0,2,1] hg) (fun h3=>⟨rfl,rfl⟩) fun h3=>?_
 have h0:givesI T.2.p t T.2.x=0:=by simpa using h3
 rw [h0]
 exact .nil _
theorem pAskMove (a:Ak) (h:a.ok) (hk:a.s.kind=7):DM Tryz.prog 60 [.a (.ptr 0 0)] [.cell (Ak.at a)] (.a (.v (.int .i64 (moveI a).1))) [.cell (Ak.at (moveI a).2.1)]:=by
 have hA:=allMove a h
 generalize moveI a=R at hA ⊢
 refine DM.intro Tryz.func60 rfl Tryz.ntmps60 rfl rfl rfl (by simp only [go_sem,simprocAttr]) (fun V0 Kb Nx=>?_)
 have fx:=trivial
 replace fx:=And.intro hk (And.intro tyZ trivial)
 repeat' (first|(refine RWL.fin ?_;try simp only [thenQ_n,blockQ_n])|refine stp [0,1,2,3,4,9,10,23,38,50,57,72,80,88,102,115] ?_|(refine RS.li ?_;refine rnx ?_)|(refine RS.bC ?_;refine rnx ?_)|(refine RS.mb ?_;refine rnx ?_)|refine RWL.fr ?_|refine RWL.mb ?_|refine RWL.wt ?_|refine RWL.lS ?_|refine RWL.bC ?_|(refine RS.cM [0,2] (hp:=by exact pgVarT a Ty.zero a.s.y) (h:=?_);refine rnx ?_)|(refine RS.cM [0,1,2,3,4,5,6,7] (hp:=by exact hA) (h:=?_);refine rnx ?_)|(refine' WP.dl (id:=18) [0,1,0,0,8,24,56,120,252,0,1023,2047,4095] [0,1,2,3,4,9,10,23,38,50,57,72,80,88,102,115] [8,10,11] [(8,_),(10,_),(11,_)] ?_)|(refine RWL.cM [0,2] (hp:=by exact pgVarT a Ty.zero a.s.y) (h:=?_))|(refine RWL.cM [0,1,2,3,4,5,6,7] (hp:=by exact hA) (h:=?_))|refine RWL.re ?_ ?_|refine RdO.oz|refine RdO.oa ?_|refine RdO.oe ?_|refine RdO.on|refine WP.cn (fun hc=>?_) (fun hc=>?_)|((first|refine WP.dw (id:=4) 9 [0,1,2,3,4,9,10,23,38,50,57,72,80,88,102,115] ?_|refine WP.dw (id:=6) 11 [0,1,2,3,4,9,10,23,38,50,57,72,80,88,102,115] ?_|refine WP.dw (id:=8) 8 [0,1,2,3,4,9,10,23,38,50,57,72,80,88,102,115] ?_|refine WP.dw (id:=20) 9 [0,1,2,3,4,9,10,23,38,50,57,72,80,88,102,115] ?_);simp only [RQr_mk,List.drop_succ_cons,List.drop_zero,List.drop_nil])|fail)
 exact retM1 ⟨rfl,_,rfl⟩
def condI (a:Ak):Int×Ty:=if ((oneT a.c a.m a.s.e).2 != 0)=true then ((oneT a.c a.m a.s.e).2,(oneT a.c a.m a.s.e).1) else (bif (oneT a.c a.m a.s.e).1.kind==1 then 0 else 14,(oneT a.c a.m a.s.e).1)
theorem allCond (a:Ak) (h:a.ok):DM Tryz.prog 117 [.a (.cs 6 0 2)] [.cell (Ak.at a),.cell [.ptr 0 0],.cell (Ty.at Ty.zero),.cell (Ty.at Ty.zero),.cell [.ptr 0 0],.cell [.ptr 2 0],.cell [.fn 177 [.ptr 4 0,.ptr 5 0],.fn 130 [.ptr 2 0]]] (.a (.v (.int .i64 (condI a).1)))
  [.cell (Ak.at a),.cell [.ptr 0 0],.cell (Ty.at (condI a).2),.cell (Ty.at Ty.zero),.cell [.ptr 0 0],.cell [.ptr 2 0],.cell [.fn 177 [.ptr 4 0,.ptr 5 0],.fn 130 [.ptr 2 0]]]:=by
 have h2':=pgValue1 a Ty.zero h
 refine pAll 6 [.fn 177 [.ptr 4 0,.ptr 5 0],.fn 130 [.ptr 2 0]] _ _ _ (Nat.le_of_ble_eq_true rfl) rfl rfl (by simp only [go_sem,simprocAttr]) ?_
 unfold condI
 generalize oneT a.c a.m a.s.e=R at h2' ⊢
 have h4':=pgAsk4 R.1
 refine .one rfl (DM.lift [0,2,4,5] h2') (fun h1=>?_) fun h1=>?_
 ·rw [if_pos h1];exact⟨rfl,rfl⟩
 rw [if_neg (by rw [h1];exact Bool.false_ne_true)]
 refine .one rfl (DM.lift [2] h4') (fun h1=>⟨rfl,rfl⟩) fun h1=>?_
 have h0:(bif R.1.kind==1 then (0:Int) else 14)=0:=by simpa using h1
 rw [h0]
 exact .nil _
theorem pAskIf (a:Ak) (h:a.ok) (hk:a.s.kind=9):DM Tryz.prog 60 [.a (.ptr 0 0)] [.cell (Ak.at a)] (.a (.v (.int .i64 (condI a).1))) [.cell (Ak.at a)]:=by
 have hA:=allCond a h
 generalize condI a=R at hA ⊢
 refine DM.intro Tryz.func60 rfl Tryz.ntmps60 rfl rfl rfl (by simp only [go_sem,simprocAttr]) (fun V0 Kb Nx=>?_)
 have fx:=trivial
 replace fx:=And.intro hk (And.intro tyZ trivial)
 repeat' (first|(refine RWL.fin ?_;try simp only [thenQ_n,blockQ_n])|refine stp [0,1,2,3,4,9,10,23,38,50,57,72,80,88,102,115] ?_|(refine RS.li ?_;refine rnx ?_)|(refine RS.bC ?_;refine rnx ?_)|(refine RS.mb ?_;refine rnx ?_)|refine RWL.fr ?_|refine RWL.mb ?_|refine RWL.wt ?_|refine RWL.lS ?_|refine RWL.bC ?_|(refine RS.cM [0,2] (hp:=by exact pgValue a Ty.zero) (h:=?_);refine rnx ?_)|(refine RS.cM [0,1,2,3,4,5,6] (hp:=by exact hA) (h:=?_);refine rnx ?_)|(refine' WP.dl (id:=18) [0,1,0,0,8,24,56,120,252,0,1023,2047,4095] [0,1,2,3,4,9,10,23,38,50,57,72,80,88,102,115] [8,10,11] [(8,_),(10,_),(11,_)] ?_)|(refine RWL.cM [0,2] (hp:=by exact pgValue a Ty.zero) (h:=?_))|(refine RWL.cM [0,1,2,3,4,5,6] (hp:=by exact hA) (h:=?_))|refine RWL.re ?_ ?_|refine RdO.oz|refine RdO.oa ?_|refine RdO.oe ?_|refine RdO.on|refine WP.cn (fun hc=>?_) (fun hc=>?_)|((first|refine WP.dw (id:=4) 9 [0,1,2,3,4,9,10,23,38,50,57,72,80,88,102,115] ?_|refine WP.dw (id:=6) 11 [0,1,2,3,4,9,10,23,38,50,57,72,80,88,102,115] ?_|refine WP.dw (id:=8) 8 [0,1,2,3,4,9,10,23,38,50,57,72,80,88,102,115] ?_|refine WP.dw (id:=20) 9 [0,1,2,3,4,9,10,23,38,50,57,72,80,88,102,115] ?_);simp only [RQr_mk,List.drop_succ_cons,List.drop_zero,List.drop_nil])|fail)
 exact retM1 ⟨rfl,_,rfl⟩
theorem pAskWhile (a:Ak) (h:a.ok) (hk:a.s.kind=10):DM Tryz.prog 60 [.a (.ptr 0 0)] [.cell (Ak.at a)] (.a (.v (.int .i64 (condI a).1))) [.cell (Ak.at a)]:=by
 have hA:=allCond a h
 generalize condI a=R at hA ⊢
 refine DM.intro Tryz.func60 rfl Tryz.ntmps60 rfl rfl rfl (by simp only [go_sem,simprocAttr]) (fun V0 Kb Nx=>?_)
 have fx:=trivial
 replace fx:=And.intro hk (And.intro tyZ trivial)
 repeat' (first|(refine RWL.fin ?_;try simp only [thenQ_n,blockQ_n])|refine stp [0,1,2,3,4,9,10,23,38,50,57,72,80,88,102,115] ?_|(refine RS.li ?_;refine rnx ?_)|(refine RS.bC ?_;refine rnx ?_)|(refine RS.mb ?_;refine rnx ?_)|refine RWL.fr ?_|refine RWL.mb ?_|refine RWL.wt ?_|refine RWL.lS ?_|refine RWL.bC ?_|(refine RS.cM [0,2] (hp:=by exact pgValue a Ty.zero) (h:=?_);refine rnx ?_)|(refine RS.cM [0,1,2,3,4,5,6] (hp:=by exact hA) (h:=?_);refine rnx ?_)|(refine' WP.dl (id:=18) [0,1,0,0,8,24,56,120,252,0,1023,2047,4095] [0,1,2,3,4,9,10,23,38,50,57,72,80,88,102,115] [8,10,11] [(8,_),(10,_),(11,_)] ?_)|(refine RWL.cM [0,2] (hp:=by exact pgValue a Ty.zero) (h:=?_))|(refine RWL.cM [0,1,2,3,4,5,6] (hp:=by exact hA) (h:=?_))|refine RWL.re ?_ ?_|refine RdO.oz|refine RdO.oa ?_|refine RdO.oe ?_|refine RdO.on|refine WP.cn (fun hc=>?_) (fun hc=>?_)|((first|refine WP.dw (id:=4) 9 [0,1,2,3,4,9,10,23,38,50,57,72,80,88,102,115] ?_|refine WP.dw (id:=6) 11 [0,1,2,3,4,9,10,23,38,50,57,72,80,88,102,115] ?_|refine WP.dw (id:=8) 8 [0,1,2,3,4,9,10,23,38,50,57,72,80,88,102,115] ?_|refine WP.dw (id:=20) 9 [0,1,2,3,4,9,10,23,38,50,57,72,80,88,102,115] ?_);simp only [RQr_mk,List.drop_succ_cons,List.drop_zero,List.drop_nil])|fail)
 exact retM1 ⟨rfl,_,rfl⟩
end Go.Proofs.YtibdalkdgjghoaaGreatDoor
