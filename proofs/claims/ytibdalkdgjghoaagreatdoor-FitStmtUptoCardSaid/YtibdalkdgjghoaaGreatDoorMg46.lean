/- Fields by their names, on plain data. Conditions: at most 2^20 fields. -/
import Derived.Test.YtibdalkdgjghoaaGreatDoorMg35
import Derived.Test.YtibdalkdgjghoaaGreatDoorMg36
import Derived.Test.YtibdalkdgjghoaaGreatDoorMg45
set_option linter.unusedVariables false
set_option maxRecDepth 100000
set_option maxHeartbeats 8000000
set_option linter.unusedSimpArgs false
namespace Go.Proofs.YtibdalkdgjghoaaGreatDoor
open Go.RowKit
theorem pIxSlot (q:Fs→Bool) (l:List Fs) (fn:FuncId) (caps:List A) (hcl:caps.all clA=true) (hn:l.length≤1048576) (hf:∀k∈l,DPure Tryz.prog fn (.r (Fs.at k)::caps.map D.a) (.a (.v (.bool (q k))))):DPure Tryz.prog 230 [.a (.sl (l.map Fs.at)),.a (.fn fn caps)] (.a (.v (.int .i64 (ixOf q l 0)))):=by
 have hcd:=cap_okD hcl
 have hld:=cap_ldD hcl
 refine DPure.go Tryz.func230 rfl Tryz.ntmps230 rfl rfl rfl (fun C hro=>?_)
 have fx:=trivial
 repeat' (first|refine stp [0,1,4,5,7,8,9,16] ?_|refine WP.cn (fun hc=>?_) (fun hc=>?_)|fail)
 refine WP.loop (α:={ k:Nat // k≤l.length∧(l.take k).any q=false }) (fun y=>[(0,.a (.sl (l.map Fs.at))),(1,.a (.fn fn caps)),(7,.a (.v (.int .i64 (l.length:Nat)))),(8,.a (.v (.int .i64 (y.1:Nat))))]) (fun _=>[]) (fun y=>l.length-y.1) ⟨0,by omega,rfl⟩ (by simp only [Agree,go_sem,simprocAttr];first|done|rfl) rfl ?_
 rintro⟨k,hk,hinv⟩
 dsimp only
 by_cases hlt:k<l.length
 ·have hlt2:decide ((k:Int)<((l.length:Nat):Int))=true:=decide_eq_true (by omega)
  obtain⟨z,hz⟩:∃z,l[k]? = some z:=⟨_,List.getElem?_eq_getElem hlt⟩
  have hzm:z∈l:=List.mem_of_getElem? hz
  have hzt:=take_snocA hz
  have hix:∀q2,ixD (some 14) q2 (.a (.sl (l.map Fs.at))) (.a (.v (.int .i64 (k:Int))))=some (.a (.ref (Fs.at z) 0)):=fun q2=>ixD_at rfl (by rw [List.getElem?_map,hz];rfl) (by simp only [go_sem])
  have hw:k<9223372036854775807:=by omega
  have hwu:=wrap64n (k:=k) (by omega)
  replace fx:=And.intro hlt2 (And.intro hix (And.intro hwu (And.intro hcd (And.intro hld trivial))))
  repeat' (first|refine stp [0,1,4,5,7,8,9,16] ?_|(refine stc (r1:=by exact hf z hzm) (r2:=?_);refine rnx ?_)|refine WP.cn (fun hc=>?_) (fun hc=>?_)|fail)
  ·rw [ixOf_at q l k 0 z hz hinv hc,Nat.zero_add]
  ·refine⟨⟨k+1,by omega,by rw [hzt,List.any_append,hinv];simpa using hc⟩,by dsimp only;omega,?_,rfl⟩
   simp only [Agree,go_sem,simprocAttr]
 obtain rfl:k=l.length:=by omega
 rw [List.take_length] at hinv
 have hlt2:decide ((l.length:Int)<(l.length:Int))=false:=decide_eq_false (by omega)
 replace fx:=And.intro hlt2 trivial
 repeat' (first|refine stp [0,1,4,5,7,8,9,16] ?_|refine WP.cn (fun hc=>?_) (fun hc=>?_)|fail)
 rw [ixOf_none q l 0 hinv]
theorem pfNamed1 (f:Fs) (s:List UInt8):DPure Tryz.prog 247 [.r (Fs.at f),.a (.ref [.v (.string (bs s))] 0)] (.a (.v (.bool (f.var.name==s)))):=by
 refine DPure.go Tryz.func247 rfl Tryz.ntmps247 rfl rfl rfl (fun C hro=>?_)
 have fx:=trivial
 repeat' (first|refine stp [0,1,2,3] ?_|fail)
 rfl
theorem pfNamed (s:List UInt8):DM Tryz.prog 231 [.a (.v (.string (bs s)))] [] (.a (.fn 247 [.ptr 0 0])) [.cell [.v (.string (bs s))]]:=by
 refine DM.intro Tryz.func231 rfl Tryz.ntmps231 rfl rfl rfl (by simp only [go_sem,simprocAttr]) (fun V0 Kb Nx=>?_)
 have fx:=trivial
 repeat' (first|refine stp [0,1,2] ?_|fail)
 exact retM1 ⟨rfl,_,rfl⟩
theorem pfOf (p:List Cs) (s n:List UInt8) (hF:sumOf (fun c=>c.fields.length) p≤1048576) (hA:DPure Tryz.prog 229 [.a (.sl (p.map Cs.at)),.a (.v (.string (bs s)))] (.a (.sl ((allF p s).map Fs.at)))):DPure Tryz.prog 180 [.a (.sl (p.map Cs.at)),.a (.v (.string (bs s))),.a (.v (.string (bs n)))] (.t [.r (Fs.at (slotF p s n).1),.a (.v (.bool (slotF p s n).2))]):=by
 have hx:=pIxSlot (fun f=>f.var.name==n) (allF p s) 247 [.ref [.v (.string (bs n))] 0] rfl (Nat.le_trans (allF_len p s) hF) (fun k _=>pfNamed1 k n)
 have zF:=Fs.z0
 rcases ixOf_get (fun f:Fs=>f.var.name==n) (allF p s) 0 with hp|⟨j,z,hz,_,hp⟩
 ·have hp':findF p s n = -1:=hp
  rw [hp] at hx
  rw [show slotF p s n=(Fs.zero,false) by unfold slotF;rw [hp',if_pos (by omega)]]
  have hd:decide ((-1:Int)<0)=true:=by decide
  refine DPure.go Tryz.func180 rfl Tryz.ntmps180 rfl rfl rfl (fun C hro=>?_)
  have fx:=trivial
  replace fx:=And.intro hd (And.intro zF trivial)
  repeat' (first|refine stp [0,1,2,6,7,8,9,18] ?_|(refine RS.sE ?_;refine rnx ?_)|(refine RS.xC ?_;refine rnx ?_)|(refine stc (r1:=by first|exact hA|exact hx) (r2:=?_);refine rnx ?_)|(refine RS.cM [] (hp:=by exact pfNamed n) (h:=?_);refine rnx ?_)|refine WP.cn (fun hc=>?_) (fun hc=>?_)|fail)
  all_goals first|rfl|trace_state
 ·have hp':findF p s n=(j:Int):=by rw [Nat.zero_add] at hp;exact hp
  rw [Nat.zero_add] at hp
  rw [hp] at hx
  rw [show slotF p s n=(z,true) by unfold slotF;rw [hp',if_neg (by omega),Int.toNat_natCast,hz];rfl]
  have hd:decide ((j:Int)<0)=false:=decide_eq_false (by omega)
  have hjx:∀q2,ixD (some 14) q2 (.a (.sl ((allF p s).map Fs.at))) (.a (.v (.int .i64 (j:Int))))=some (.a (.ref (Fs.at z) 0)):=fun q2=>ixD_at rfl (by rw [List.getElem?_map,hz];rfl) (by simp only [go_sem])
  refine DPure.go Tryz.func180 rfl Tryz.ntmps180 rfl rfl rfl (fun C hro=>?_)
  have fx:=trivial
  replace fx:=And.intro hd (And.intro hjx (And.intro zF trivial))
  repeat' (first|refine stp [0,1,2,6,7,8,9,18] ?_|(refine RS.sE ?_;refine rnx ?_)|(refine RS.xC ?_;refine rnx ?_)|(refine stc (r1:=by first|exact hA|exact hx) (r2:=?_);refine rnx ?_)|(refine RS.cM [] (hp:=by exact pfNamed n) (h:=?_);refine rnx ?_)|refine WP.cn (fun hc=>?_) (fun hc=>?_)|fail)
  all_goals first|rfl|trace_state
def fldI (a:Ak):Int×Ty:=(bif (slotF a.p a.o.cls a.s.name).2 then 0 else 11,(slotF a.p a.o.cls a.s.name).1.var.ty)
theorem pgField (a:Ak) (t:Ty):DM Tryz.prog 121 [.a (.ptr 0 0),.a (.ptr 1 0)] [.cell (Ak.at a),.cell (Ty.at t)] (.a (.fn 179 [.ptr 2 0,.ptr 3 0])) [.cell (Ak.at a),.cell (Ty.at t),.cell [.ptr 0 0],.cell [.ptr 1 0]]:=by
 refine DM.intro Tryz.func121 rfl Tryz.ntmps121 rfl rfl rfl (by simp only [go_sem,simprocAttr]) (fun V0 Kb Nx=>?_)
 have fx:=trivial
 repeat' (first|refine stp [0,1,2,3,4] ?_|fail)
 exact retM1 ⟨rfl,[],rfl⟩
theorem pgField1 (a:Ak) (t:Ty) (hO:DPure Tryz.prog 180 [.a (.sl (a.p.map Cs.at)),.a (.v (.string (bs a.o.cls))),.a (.v (.string (bs a.s.name)))] (.t [.r (Fs.at (slotF a.p a.o.cls a.s.name).1),.a (.v (.bool (slotF a.p a.o.cls a.s.name).2))])):DM Tryz.prog 179 [.a (.ptr 2 0),.a (.ptr 3 0)] [.cell (Ak.at a),.cell (Ty.at t),.cell [.ptr 0 0],.cell [.ptr 1 0]] (.a (.v (.int .i64 (fldI a).1))) [.cell (Ak.at a),.cell (Ty.at (fldI a).2),.cell [.ptr 0 0],.cell [.ptr 1 0]]:=by
 have zF:=Fs.z0
 unfold fldI
 generalize slotF a.p a.o.cls a.s.name=Z at hO ⊢
 refine DM.intro Tryz.func179 rfl Tryz.ntmps179 rfl rfl rfl (by simp only [go_sem,simprocAttr]) (fun V0 Kb Nx=>?_)
 have fx:=trivial
 replace fx:=And.intro zF trivial
 repeat' (first|(refine RWL.fin ?_;try simp only [thenQ_n,blockQ_n])|refine stp [0,1,2,3,4] ?_|(refine RS.sE ?_;refine rnx ?_)|refine RWL.fr ?_|refine RWL.wt ?_|(refine stc (r1:=by first|exact hO|exact pMust Z.2 11) (r2:=?_);refine rnx ?_)|(refine' WP.dl (id:=1) [0,1,3,7,0,16,48,112,240,0,512,1536,3584,7680,16383,32767,65535,65535,0,393215,1048575] [0,1,2,3,4] [18,19] [(18,_),(19,_)] ?_)|refine RWL.re ?_ ?_|refine RdO.oz|refine RdO.oa ?_|refine RdO.oe ?_|refine RdO.on|fail)
 exact retM1 ⟨rfl,_,rfl⟩
theorem pgFitsU (a:Ak) (t u:Ty):DM Tryz.prog 120 [.a (.ptr 0 0),.a (.ptr 2 0),.a (.ptr 1 0)] [.cell (Ak.at a),.cell (Ty.at t),.cell (Ty.at u)] (.a (.fn 178 [.ptr 3 0,.ptr 4 0,.ptr 5 0])) [.cell (Ak.at a),.cell (Ty.at t),.cell (Ty.at u),.cell [.ptr 0 0],.cell [.ptr 2 0],.cell [.ptr 1 0]]:=by
 refine DM.intro Tryz.func120 rfl Tryz.ntmps120 rfl rfl rfl (by simp only [go_sem,simprocAttr]) (fun V0 Kb Nx=>?_)
 have fx:=trivial
 repeat' (first|refine stp [0,1,2,3,4,5,6] ?_|fail)
 exact retM1 ⟨rfl,[],rfl⟩
theorem pgFitsU1 (a:Ak) (t u:Ty) (h:a.ok):DM Tryz.prog 178 [.a (.ptr 3 0),.a (.ptr 4 0),.a (.ptr 5 0)] [.cell (Ak.at a),.cell (Ty.at t),.cell (Ty.at u),.cell [.ptr 0 0],.cell [.ptr 2 0],.cell [.ptr 1 0]] (.a (.v (.int .i64 (fitsI a.p u t)))) [.cell (Ak.at a),.cell (Ty.at t),.cell (Ty.at u),.cell [.ptr 0 0],.cell [.ptr 2 0],.cell [.ptr 1 0]]:=by
 refine DM.intro Tryz.func178 rfl Tryz.ntmps178 rfl rfl rfl (by simp only [go_sem,simprocAttr]) (fun V0 Kb Nx=>?_)
 have fx:=trivial
 repeat' (first|refine stp [0,1,2,3] ?_|(refine stc (r1:=by exact pFits a.p u t h.np) (r2:=?_);refine rnx ?_)|((first|refine WP.dw (id:=1) 12 [0,1,2,3] ?_);simp only [RQr_mk,List.drop_succ_cons,List.drop_zero,List.drop_nil])|fail)
 exact retM1 ⟨rfl,_,rfl⟩
def FdOf (p:List Cs):Prop:=∀s n:List UInt8,DPure Tryz.prog 180 [.a (.sl (p.map Cs.at)),.a (.v (.string (bs s))),.a (.v (.string (bs n)))] (.t [.r (Fs.at (slotF p s n).1),.a (.v (.bool (slotF p s n).2))])
def getI (a:Ak):Int×Ak×Ty :=
 if ((tgt a).1 != 0)=true then ((tgt a).1,(tgt a).2,Ty.zero) else if ((obI (tgt a).2).1 != 0)=true then ((obI (tgt a).2).1,(obI (tgt a).2).2,Ty.zero)
 else if ((fldI (obI (tgt a).2).2).1 != 0)=true then ((fldI (obI (tgt a).2).2).1,(obI (tgt a).2).2,(fldI (obI (tgt a).2).2).2) else (fitsI (obI (tgt a).2).2.p (fldI (obI (tgt a).2).2).2 (obI (tgt a).2).2.x,(obI (tgt a).2).2,(fldI (obI (tgt a).2).2).2)
theorem allGet (a:Ak) (h:a.ok) (hO:FdOf a.p):DM Tryz.prog 117 [.a (.cs 9 0 4)] [.cell (Ak.at a),.cell [.ptr 0 0],.cell (Ty.at Ty.zero),.cell (Ty.at Ty.zero),.cell [.ptr 0 0],.cell [.ptr 2 0],.cell [.ptr 0 0],.cell [.ptr 2 0],.cell [.ptr 0 48],.cell [.fm 118 [.ptr 0 0],.fm 48 [.ptr 0 0],.fn 179 [.ptr 4 0,.ptr 5 0],.fn 178 [.ptr 6 0,.ptr 7 0,.ptr 8 0]]] (.a (.v (.int .i64 (getI a).1)))
  [.cell (Ak.at (getI a).2.1),.cell [.ptr 0 0],.cell (Ty.at (getI a).2.2),.cell (Ty.at Ty.zero),.cell [.ptr 0 0],.cell [.ptr 2 0],.cell [.ptr 0 0],.cell [.ptr 2 0],.cell [.ptr 0 48],.cell [.fm 118 [.ptr 0 0],.fm 48 [.ptr 0 0],.fn 179 [.ptr 4 0,.ptr 5 0],.fn 178 [.ptr 6 0,.ptr 7 0,.ptr 8 0]]]:=by
 have ht:=pgTarget a h
 have ho:=pgObject (tgt a).2 (Ak.ok_tgt h)
 have hok:=Ak.ok_ob (Ak.ok_tgt h)
 have hp:(obI (tgt a).2).2.p=a.p:=by rw [(obI_keep _).1,(tgt_keep a).1]
 have hf:=pgField1 (obI (tgt a).2).2 Ty.zero (by rw [hp];exact hO _ _)
 have hx:=fun t=>pgFitsX1 (obI (tgt a).2).2 t hok
 refine pAll 9 [.fm 118 [.ptr 0 0],.fm 48 [.ptr 0 0],.fn 179 [.ptr 4 0,.ptr 5 0],.fn 178 [.ptr 6 0,.ptr 7 0,.ptr 8 0]] _ _ _ (Nat.le_of_ble_eq_true rfl) rfl rfl (by simp only [go_sem,simprocAttr]) ?_
 unfold getI
 clear hp hok
 generalize fldI (obI (tgt a).2).2=L at hf ⊢
 generalize obI (tgt a).2=B at ho hf hx ⊢
 generalize tgt a=T at ht ho ⊢
 refine .one rfl (DM.lift [0] ht) (fun h1=>?_) fun h1=>?_
 ·rw [if_pos h1];exact⟨rfl,rfl⟩
 rw [if_neg (by rw [h1];exact Bool.false_ne_true)]
 refine .one rfl (DM.lift [0] ho) (fun h2=>?_) fun h2=>?_
 ·rw [if_pos h2];exact⟨rfl,rfl⟩
 rw [if_neg (by rw [h2];exact Bool.false_ne_true)]
 refine .one rfl (DM.lift [0,2,4,5] hf) (fun h3=>?_) fun h3=>?_
 ·rw [if_pos h3];exact⟨rfl,rfl⟩
 rw [if_neg (by rw [h3];exact Bool.false_ne_true)]
 refine .one rfl (DM.lift [0,2,6,7,8] (hx L.2)) (fun h4=>⟨rfl,rfl⟩) fun h4=>?_
 have h0:fitsI B.2.p L.2 B.2.x=0:=by simpa using h4
 rw [h0]
 exact .nil _
theorem pAskGet (a:Ak) (h:a.ok) (hO:FdOf a.p) (hk:a.s.kind=2):DM Tryz.prog 60 [.a (.ptr 0 0)] [.cell (Ak.at a)] (.a (.v (.int .i64 (getI a).1))) [.cell (Ak.at (getI a).2.1)]:=by
 have hA:=allGet a h hO
 generalize getI a=R at hA ⊢
 refine DM.intro Tryz.func60 rfl Tryz.ntmps60 rfl rfl rfl (by simp only [go_sem,simprocAttr]) (fun V0 Kb Nx=>?_)
 have fx:=trivial
 replace fx:=And.intro hk (And.intro tyZ trivial)
 repeat' (first|(refine RWL.fin ?_;try simp only [thenQ_n,blockQ_n])|refine stp [0,1,2,3,4,9,10,23,38,50,57,72,80,88,102,115] ?_|(refine RS.li ?_;refine rnx ?_)|(refine RS.bC ?_;refine rnx ?_)|(refine RS.mb ?_;refine rnx ?_)|refine RWL.fr ?_|refine RWL.mb ?_|refine RWL.wt ?_|refine RWL.lS ?_|refine RWL.bC ?_|(refine RS.cM [0,2] (hp:=by exact pgField a Ty.zero) (h:=?_);refine rnx ?_)|(refine RS.cM [0,2] (hp:=by exact pgFitsX a Ty.zero) (h:=?_);refine rnx ?_)|(refine RS.cM [0,1,2,3,4,5,6,7,8,9] (hp:=by exact hA) (h:=?_);refine rnx ?_)|(refine' WP.dl (id:=6) [0,1,0,4,0,16,0,0,128,384,1008,2047,4095,8191] [0,1,2,3,4,9,10,23,38,50,57,72,80,88,102,115] [5,10,11,12] [(5,_),(10,_),(11,_),(12,_)] ?_)|(refine' WP.dl (id:=8) [0,1,0,4,0,28,0,124,255,511,1023] [0,1,2,3,4,9,10,23,38,50,57,72,80,88,102,115] [3,5,7,8,9] [(3,_),(5,_),(7,_),(8,_),(9,_)] ?_)|(refine RWL.cM [0,2] (hp:=by exact pgField a Ty.zero) (h:=?_))|(refine RWL.cM [0,2] (hp:=by exact pgFitsX a Ty.zero) (h:=?_))|(refine RWL.cM [0,1,2,3,4,5,6,7,8,9] (hp:=by exact hA) (h:=?_))|refine RWL.re ?_ ?_|refine RdO.oz|refine RdO.oa ?_|refine RdO.oe ?_|refine RdO.on|refine WP.cn (fun hc=>?_) (fun hc=>?_)|((first|refine WP.dw (id:=4) 9 [0,1,2,3,4,9,10,23,38,50,57,72,80,88,102,115] ?_|refine WP.dw (id:=18) 10 [0,1,2,3,4,9,10,23,38,50,57,72,80,88,102,115] ?_|refine WP.dw (id:=20) 9 [0,1,2,3,4,9,10,23,38,50,57,72,80,88,102,115] ?_);simp only [RQr_mk,List.drop_succ_cons,List.drop_zero,List.drop_nil])|fail)
 exact retM1 ⟨rfl,_,rfl⟩
def putI (a:Ak):Int×Ak×Ty×Ty :=
 if ((obI a).1 != 0)=true then ((obI a).1,(obI a).2,Ty.zero,Ty.zero) else if ((fldI (obI a).2).1 != 0)=true then ((fldI (obI a).2).1,(obI a).2,(fldI (obI a).2).2,Ty.zero)
 else if ((oneT (obI a).2.c (obI a).2.m (obI a).2.s.e).2 != 0)=true then ((oneT (obI a).2.c (obI a).2.m (obI a).2.s.e).2,(obI a).2,(fldI (obI a).2).2,(oneT (obI a).2.c (obI a).2.m (obI a).2.s.e).1) else (fitsI (obI a).2.p (oneT (obI a).2.c (obI a).2.m (obI a).2.s.e).1 (fldI (obI a).2).2,(obI a).2,(fldI (obI a).2).2,(oneT (obI a).2.c (obI a).2.m (obI a).2.s.e).1)
theorem allPut (a:Ak) (h:a.ok) (hO:FdOf a.p):DM Tryz.prog 117 [.a (.cs 11 0 4)] [.cell (Ak.at a),.cell [.ptr 0 0],.cell (Ty.at Ty.zero),.cell (Ty.at Ty.zero),.cell [.ptr 0 0],.cell [.ptr 2 0],.cell [.ptr 0 0],.cell [.ptr 3 0],.cell [.ptr 0 0],.cell [.ptr 3 0],.cell [.ptr 2 0],.cell [.fm 48 [.ptr 0 0],.fn 179 [.ptr 4 0,.ptr 5 0],.fn 177 [.ptr 6 0,.ptr 7 0],.fn 178 [.ptr 8 0,.ptr 9 0,.ptr 10 0]]] (.a (.v (.int .i64 (putI a).1)))
  [.cell (Ak.at (putI a).2.1),.cell [.ptr 0 0],.cell (Ty.at (putI a).2.2.1),.cell (Ty.at (putI a).2.2.2),.cell [.ptr 0 0],.cell [.ptr 2 0],.cell [.ptr 0 0],.cell [.ptr 3 0],.cell [.ptr 0 0],.cell [.ptr 3 0],.cell [.ptr 2 0],.cell [.fm 48 [.ptr 0 0],.fn 179 [.ptr 4 0,.ptr 5 0],.fn 177 [.ptr 6 0,.ptr 7 0],.fn 178 [.ptr 8 0,.ptr 9 0,.ptr 10 0]]]:=by
 have ho:=pgObject a h
 have hok:=Ak.ok_ob h
 have hp:(obI a).2.p=a.p:=(obI_keep _).1
 have hf:=pgField1 (obI a).2 Ty.zero (by rw [hp];exact hO _ _)
 have hv:=pgValue1 (obI a).2 Ty.zero hok
 have hx:=fun t u=>pgFitsU1 (obI a).2 t u hok
 refine pAll 11 [.fm 48 [.ptr 0 0],.fn 179 [.ptr 4 0,.ptr 5 0],.fn 177 [.ptr 6 0,.ptr 7 0],.fn 178 [.ptr 8 0,.ptr 9 0,.ptr 10 0]] _ _ _ (Nat.le_of_ble_eq_true rfl) rfl rfl (by simp only [go_sem,simprocAttr]) ?_
 unfold putI
 clear hp hok
 generalize fldI (obI a).2=L at hf ⊢
 generalize oneT (obI a).2.c (obI a).2.m (obI a).2.s.e=R at hv ⊢
 generalize obI a=B at ho hf hv hx ⊢
 refine .one rfl (DM.lift [0] ho) (fun h2=>?_) fun h2=>?_
 ·rw [if_pos h2];exact⟨rfl,rfl⟩
 rw [if_neg (by rw [h2];exact Bool.false_ne_true)]
 refine .one rfl (DM.lift [0,2,4,5] hf) (fun h3=>?_) fun h3=>?_
 ·rw [if_pos h3];exact⟨rfl,rfl⟩
 rw [if_neg (by rw [h3];exact Bool.false_ne_true)]
 refine .one rfl (DM.lift [0,3,6,7] hv) (fun h4=>?_) fun h4=>?_
 ·rw [if_pos h4];exact⟨rfl,rfl⟩
 rw [if_neg (by rw [h4];exact Bool.false_ne_true)]
 refine .one rfl (DM.lift [0,2,3,8,9,10] (hx L.2 R.1)) (fun h5=>⟨rfl,rfl⟩) fun h5=>?_
 have h0:fitsI B.2.p R.1 L.2=0:=by simpa using h5
 rw [h0]
 exact .nil _
theorem pAskPut (a:Ak) (h:a.ok) (hO:FdOf a.p) (hk:a.s.kind=3):DM Tryz.prog 60 [.a (.ptr 0 0)] [.cell (Ak.at a)] (.a (.v (.int .i64 (putI a).1))) [.cell (Ak.at (putI a).2.1)]:=by
 have hA:=allPut a h hO
 generalize putI a=R at hA ⊢
 refine DM.intro Tryz.func60 rfl Tryz.ntmps60 rfl rfl rfl (by simp only [go_sem,simprocAttr]) (fun V0 Kb Nx=>?_)
 have fx:=trivial
 replace fx:=And.intro hk (And.intro tyZ trivial)
 repeat' (first|(refine RWL.fin ?_;try simp only [thenQ_n,blockQ_n])|refine stp [0,1,2,3,4,9,10,23,38,50,57,72,80,88,102,115] ?_|(refine RS.li ?_;refine rnx ?_)|(refine RS.bC ?_;refine rnx ?_)|(refine RS.mb ?_;refine rnx ?_)|refine RWL.fr ?_|refine RWL.mb ?_|refine RWL.wt ?_|refine RWL.lS ?_|refine RWL.bC ?_|(refine RS.cM [0,2] (hp:=by exact pgField a Ty.zero) (h:=?_);refine rnx ?_)|(refine RS.cM [0,3] (hp:=by exact pgValue a Ty.zero) (h:=?_);refine rnx ?_)|(refine RS.cM [0,2,3] (hp:=by exact pgFitsU a Ty.zero Ty.zero) (h:=?_);refine rnx ?_)|(refine RS.cM [0,1,2,3,4,5,6,7,8,9,10,11] (hp:=by exact hA) (h:=?_);refine rnx ?_)|(refine' WP.dl (id:=6) [0,1,0,4,0,16,0,0,128,384,1008,2047,4095,8191] [0,1,2,3,4,9,10,23,38,50,57,72,80,88,102,115] [5,10,11,12] [(5,_),(10,_),(11,_),(12,_)] ?_)|(refine' WP.dl (id:=8) [0,1,0,4,0,28,0,124,255,511,1023] [0,1,2,3,4,9,10,23,38,50,57,72,80,88,102,115] [3,5,7,8,9] [(3,_),(5,_),(7,_),(8,_),(9,_)] ?_)|(refine RWL.cM [0,2] (hp:=by exact pgField a Ty.zero) (h:=?_))|(refine RWL.cM [0,3] (hp:=by exact pgValue a Ty.zero) (h:=?_))|(refine RWL.cM [0,2,3] (hp:=by exact pgFitsU a Ty.zero Ty.zero) (h:=?_))|(refine RWL.cM [0,1,2,3,4,5,6,7,8,9,10,11] (hp:=by exact hA) (h:=?_))|refine RWL.re ?_ ?_|refine RdO.oz|refine RdO.oa ?_|refine RdO.oe ?_|refine RdO.on|refine WP.cn (fun hc=>?_) (fun hc=>?_)|((first|refine WP.dw (id:=4) 9 [0,1,2,3,4,9,10,23,38,50,57,72,80,88,102,115] ?_|refine WP.dw (id:=18) 10 [0,1,2,3,4,9,10,23,38,50,57,72,80,88,102,115] ?_|refine WP.dw (id:=20) 9 [0,1,2,3,4,9,10,23,38,50,57,72,80,88,102,115] ?_);simp only [RQr_mk,List.drop_succ_cons,List.drop_zero,List.drop_nil])|fail)
 exact retM1 ⟨rfl,_,rfl⟩
end Go.Proofs.YtibdalkdgjghoaaGreatDoor
