/- The document's names that stand twice, on plain data. Conditions: at most 2^21 names. -/
import Derived.Test.YtibdalkdgjghoaaGreatDoorMg35
import Derived.Test.YtibdalkdgjghoaaGreatDoorMg19
import Derived.Test.YtibdalkdgjghoaaGreatDoorMg38
import Derived.Test.YtibdalkdgjghoaaGreatDoorMg36
set_option linter.unusedVariables false
set_option maxRecDepth 100000
set_option maxHeartbeats 8000000
set_option linter.unusedSimpArgs false
namespace Go.Proofs.YtibdalkdgjghoaaGreatDoor
open Go.RowKit
@[go_sem] theorem strAt_ld {s:List UInt8}:ldRow none (strAt s) 0=some (.a (.v (.string (bs s)))):=rfl
theorem fdup_round {l:List (List UInt8)} {k:Nat} {z:List UInt8} (hd:l.drop k=z::l.drop (k+1)) (ht:l.take (k+1)=l.take k++[z]):fdup (l.take k) (l.drop k) k=if ((l.take k).any fun y=>y==z)=true then (k:Int) else fdup (l.take (k+1)) (l.drop (k+1)) (k+1):=by
 rw [hd,fdup,ht]
theorem pr13Twice (l:List (List UInt8)) (hn:l.length≤4194304):DPure Tryz.prog 99 [.a (.sl (l.map strAt))] (.a (.v (.int .i64 (fdup [] l 0)))):=by
 refine DPure.go Tryz.func99 rfl Tryz.ntmps99 rfl rfl rfl (fun C hro=>?_)
 have fx:=trivial
 repeat' (first|refine stp [0,2,3,4,8,13,24] ?_|(refine RS.lC ?_;refine rnx ?_)|(refine RS.xC ?_;refine rnx ?_)|refine WP.cn (fun hc=>?_) (fun hc=>?_)|((first|refine WP.dw (id:=7) 9 [0,2,3,4,8,13,24] ?_);simp only [RQr_mk,List.drop_succ_cons,List.drop_zero,List.drop_nil])|fail)
 refine WP.each l strAt 1 (fun k=>[(0,.a (.sl (l.map strAt))),(3,.a (.v (.int .i64 (k:Nat))))]) (fun _=>[]) (fun k=>fdup [] l 0=fdup (l.take k) (l.drop k) k) (by simp only [Agree,go_sem,simprocAttr];first|done|rfl) rfl rfl hn (fun _=>rfl) ?_ ?_
 ·intro k z hz hdr htk hlt hI hlt2 hix hwu
  rw [fdup_round hdr htk] at hI
  replace fx:=And.intro hlt2 trivial
  repeat' (first|refine stp [0,2,3,4,8,13,24] ?_|(refine RS.lC ?_;refine rnx ?_)|(refine RS.xC ?_;refine rnx ?_)|refine WP.cn (fun hc=>?_) (fun hc=>?_)|((first|refine WP.dw (id:=7) 9 [0,2,3,4,8,13,24] ?_);simp only [RQr_mk,List.drop_succ_cons,List.drop_zero,List.drop_nil])|fail)
  refine WP.loop (α:={ j:Nat // j≤k∧((l.take k).take j).any (fun y=>y==z)=false }) (fun y=>[(0,.a (.sl (l.map strAt))),(3,.a (.v (.int .i64 (k:Nat)))),(4,.a (.v (.int .i64 (y.1:Nat))))]) (fun _=>[]) (fun y=>k-y.1) ⟨0,by omega,rfl⟩ (by simp only [Agree,go_sem,simprocAttr];first|done|rfl) rfl ?_
  rintro⟨j,hj,hinv⟩
  dsimp only
  by_cases hjk:j<k
  ·have hlt3:decide ((j:Int)<(k:Int))=true:=decide_eq_true (by omega)
   obtain⟨y,hy⟩:∃y,l[j]? = some y:=⟨_,List.getElem?_eq_getElem (by omega)⟩
   have hiy:∀q2,ixD (some 1) q2 (.a (.sl (l.map strAt))) (.a (.v (.int .i64 (j:Int))))=some (.a (.ref (strAt y) 0)):=ixE hy rfl
   have hwj:=wrap64n (k:=j) (by omega)
   have hyt:(l.take k)[j]? = some y:=by rw [List.getElem?_take_of_lt hjk];exact hy
   replace fx:=And.intro hlt3 (And.intro hiy (And.intro hix (And.intro hwj trivial)))
   repeat' (first|refine stp [0,2,3,4,8,13,24] ?_|(refine RS.lC ?_;refine rnx ?_)|(refine RS.xC ?_;refine rnx ?_)|refine WP.cn (fun hc=>?_) (fun hc=>?_)|((first|refine WP.dw (id:=7) 9 [0,2,3,4,8,13,24] ?_);simp only [RQr_mk,List.drop_succ_cons,List.drop_zero,List.drop_nil])|fail)
   ·rw [hI,if_pos]
    rw [List.any_eq_true];exact⟨y,List.mem_of_getElem? hyt,hc⟩
   ·refine⟨⟨j+1,by omega,by rw [take_snocA hyt,List.any_append,hinv];simpa using hc⟩,by dsimp only;omega,by simp only [Agree,go_sem,simprocAttr],rfl⟩
  ·obtain rfl:j=k:=by omega
   have hlt3:decide ((j:Int)<(j:Int))=false:=decide_eq_false (by omega)
   rw [List.take_take,Nat.min_self] at hinv
   rw [hinv,if_neg Bool.false_ne_true] at hI
   replace fx:=And.intro hlt3 (And.intro hwu trivial)
   repeat' (first|refine stp [0,2,3,4,8,13,24] ?_|(refine RS.lC ?_;refine rnx ?_)|(refine RS.xC ?_;refine rnx ?_)|refine WP.cn (fun hc=>?_) (fun hc=>?_)|((first|refine WP.dw (id:=7) 9 [0,2,3,4,8,13,24] ?_);simp only [RQr_mk,List.drop_succ_cons,List.drop_zero,List.drop_nil])|fail)
   exact⟨hI,[],by simp only [Agree,go_sem,simprocAttr],rfl,rfl,rfl⟩
 ·intro hI hlt2
  rw [List.drop_length,fdup] at hI
  replace fx:=And.intro hlt2 trivial
  repeat' (first|refine stp [0,2,3,4,8,13,24] ?_|(refine RS.lC ?_;refine rnx ?_)|(refine RS.xC ?_;refine rnx ?_)|refine WP.cn (fun hc=>?_) (fun hc=>?_)|((first|refine WP.dw (id:=7) 9 [0,2,3,4,8,13,24] ?_);simp only [RQr_mk,List.drop_succ_cons,List.drop_zero,List.drop_nil])|fail)
  rw [hI]
def acE (i:Nat):Nat→D
 | 0=>.a .nl
 | k+1=>.a (.own i k)
def acB (n:Nat) (rows:List (List A)):Nat→List Bx
 | 0=>[]
 | k+1=>[.arr k n rows]
theorem pr13names (l:List Vr) (hn:l.length≤4194304):DPure Tryz.prog 101 [.a (.sl (l.map Vr.at))] (.a (.sl ((l.map Vr.name).map strAt))):=by
 refine DPure.go Tryz.func101 rfl Tryz.ntmps101 rfl rfl rfl (fun C hro=>?_)
 have fx:=trivial
 repeat' (first|refine stp [0,2,3,4,8] ?_|(refine RS.aO ?_;refine rnx ?_)|(refine RS.aN ?_;refine rnx ?_)|(refine RS.li ?_;refine rnx ?_)|(refine RS.aE ?_;refine rnx ?_)|(refine RS.aK ?_;refine rnx ?_)|(refine RS.lC ?_;refine rnx ?_)|(refine RS.xC ?_;refine rnx ?_)|(refine RS.bC ?_;refine rnx ?_)|refine WP.cn (fun hc=>?_) (fun hc=>?_)|fail)
 refine WP.each l Vr.at 13 (fun k=>[(0,.a (.sl (l.map Vr.at))),(3,acE 0 k),(4,.a (.v (.int .i64 (k:Nat))))]) (fun k=>acB 1 (((l.take k).map Vr.name).map strAt) k) (fun _=>True) (by simp only [acE,Agree,go_sem,simprocAttr];first|done|rfl) rfl trivial hn (fun z=>Vr.len z) ?_ ?_ (fun k=>by cases k<;>simp [acB])
 ·intro k z hz hdr htk hlt hI hlt2 hix hwu
  have hlen:(((l.take k).map Vr.name).map strAt).length=k:=by simp;omega
  have hR:((l.take k).map Vr.name).map strAt++[[.v (.string (bs z.name))]]=((l.take (k+1)).map Vr.name).map strAt:=by rw [htk,List.map_append,List.map_append];rfl
  generalize ((l.take k).map Vr.name).map strAt=R at hlen hR ⊢
  cases k with
  | zero =>
   have hl0:R=[]:=List.eq_nil_of_length_eq_zero hlen
   subst hl0
   have hl0:decide ((0:Int)<((l.length:Nat):Int))=true:=hlt2
   have hx0:∀q2,ixD (some 13) q2 (.a (.sl (l.map Vr.at))) (.a (.v (.int .i64 0)))=some (.a (.ref (Vr.at z) 0)):=hix
   simp only [acE,acB]
   replace fx:=And.intro hl0 (And.intro hx0 trivial)
   repeat' (first|refine stp [0,2,3,4,8] ?_|(refine RS.aO ?_;refine rnx ?_)|(refine RS.aN ?_;refine rnx ?_)|(refine RS.ls ?_;refine rnx ?_)|(refine RS.aE ?_;refine rnx ?_)|(refine RS.aK ?_;refine rnx ?_)|(refine RS.lC ?_;refine rnx ?_)|(refine RS.xC ?_;refine rnx ?_)|(refine RS.bC ?_;refine rnx ?_)|refine WP.cn (fun hc=>?_) (fun hc=>?_)|fail)
   exact⟨trivial,[],by simp only [acE,Agree,go_sem,simprocAttr],by simp only [acB,←hR];rfl,rfl,rfl⟩
  | succ k =>
   have hkk:(k==k)=true:=beq_self_eq_true k
   simp only [acE,acB]
   replace fx:=And.intro hlt2 (And.intro hix (And.intro hwu (And.intro hkk trivial)))
   repeat' (first|refine stp [0,2,3,4,8] ?_|(refine RS.aO ?_;refine rnx ?_)|(refine RS.aN ?_;refine rnx ?_)|(refine RS.ls ?_;refine rnx ?_)|(refine RS.aE ?_;refine rnx ?_)|(refine RS.aK ?_;refine rnx ?_)|(refine RS.lC ?_;refine rnx ?_)|(refine RS.xC ?_;refine rnx ?_)|(refine RS.bC ?_;refine rnx ?_)|refine WP.cn (fun hc=>?_) (fun hc=>?_)|fail)
   exact⟨trivial,[],by simp only [acE,Agree,go_sem,simprocAttr],by simp only [acB,←hR];rfl,rfl,rfl⟩
 ·intro hI hlt2
  rw [List.take_length]
  cases hk:l.length with
  | zero =>
   have hl0:l=[]:=List.eq_nil_of_length_eq_zero hk
   subst hl0
   simp only [acE,acB]
   replace fx:=And.intro hlt2 trivial
   repeat' (first|refine stp [0,2,3,4,8] ?_|(refine RS.aO ?_;refine rnx ?_)|(refine RS.aN ?_;refine rnx ?_)|(refine RS.ls ?_;refine rnx ?_)|(refine RS.aE ?_;refine rnx ?_)|(refine RS.aK ?_;refine rnx ?_)|(refine RS.lC ?_;refine rnx ?_)|(refine RS.xC ?_;refine rnx ?_)|(refine RS.bC ?_;refine rnx ?_)|refine WP.cn (fun hc=>?_) (fun hc=>?_)|fail)
   rfl
  | succ k =>
   rw [hk] at hlt2
   have hkk:(k==k)=true:=beq_self_eq_true k
   have hk2:decide (((k+1:Nat):Int)<((l.length:Nat):Int))=false:=by rw [hk];exact hlt2
   simp only [acE,acB]
   replace fx:=And.intro hk2 (And.intro hkk trivial)
   repeat' (first|refine stp [0,2,3,4,8] ?_|(refine RS.aO ?_;refine rnx ?_)|(refine RS.aN ?_;refine rnx ?_)|(refine RS.ls ?_;refine rnx ?_)|(refine RS.aE ?_;refine rnx ?_)|(refine RS.aK ?_;refine rnx ?_)|(refine RS.lC ?_;refine rnx ?_)|(refine RS.xC ?_;refine rnx ?_)|(refine RS.bC ?_;refine rnx ?_)|refine WP.cn (fun hc=>?_) (fun hc=>?_)|fail)
   rfl
theorem once_no {l:List (List UInt8)} {s:List UInt8} (h:(l.any fun y=>y==s)=false):DM Tryz.prog 93 [.a (.mp 0),.a (.v (.string (bs s)))] [.map .str false (mpS (ones l))] (.a (.v (.bool true))) [.map .str false (mpS (ones (l++[s])))]:=by
 have hl:=lk_ones l s
 rw [h,if_neg Bool.false_ne_true] at hl
 have:=ptOnce (ones l) s 1 (by rw [hl];rfl)
 rw [put_ones h] at this
 exact this
theorem once_yes {l:List (List UInt8)} {s:List UInt8} (h:(l.any fun y=>y==s)=true):DM Tryz.prog 93 [.a (.mp 0),.a (.v (.string (bs s)))] [.map .str false (mpS (ones l))] (.a (.v (.bool false))) [.map .str false (mpS (putI (ones l) s 2))]:=by
 have hl:=lk_ones l s
 rw [h,if_pos rfl] at hl
 exact ptOnce (ones l) s 2 (by rw [hl];rfl)
theorem ptBadC (p:List Cs) (e a e0 a0:Int) (A1 A2:List (List UInt8×Int)):DM Tryz.prog 94 [.a (.ptr 0 0),.a (.v (.int .i64 e)),.a (.v (.int .i64 a))] [.cell (ckAt p e0 a0),.map .str false (mpS A1),.map .str false (mpS A2)] (.a (.v (.bool false))) [.cell (ckAt p e a),.map .str false (mpS A1),.map .str false (mpS A2)]:=ptBad p e a e0 a0 _ _ (mpS_nr 3 _) (mpS_nr 3 _)
def isOk (f:Option (Int×Int)):Bool:=match f with|none=>true|some _=>false
def fOf (f:Option (Int×Int)):Int×Int:=match f with|none=>(0,0)|some g=>g
theorem twV_round {l:List Vr} {k:Nat} {z:Vr} (hd:l.drop k=z::l.drop (k+1)) (ht:l.take (k+1)=l.take k++[z]):twV ((l.take k).map Vr.name) (l.drop k)=if (((l.take k).map Vr.name).any fun y=>y==z.name)=true then some z.at_ else twV ((l.take (k+1)).map Vr.name) (l.drop (k+1)):=by
 rw [hd,twV,ht,List.map_append];rfl
theorem ptVars (p:List Cs) (A1 A2:List (List UInt8×Int)) (l:List Vr) (hn:l.length≤4194304):DM Tryz.prog 42 [.a (.ptr 0 0),.a (.sl (l.map Vr.at))] [.cell (ckAt p 0 0),.map .str false (mpS A1),.map .str false (mpS A2)] (.a (.v (.bool (isOk (varsF l))))) [.cell (ckAt p (fOf (varsF l)).1 (fOf (varsF l)).2),.map .str false (mpS A1),.map .str false (mpS A2)]:=by
 have hr1:=mpS_nr 3 A1
 have hr2:=mpS_nr 3 A2
 have hr3:=fun A=>mpS_nr 4 A
 unfold ckAt
 refine DM.intro Tryz.func42 rfl Tryz.ntmps42 rfl rfl rfl (by simp only [go_sem,simprocAttr,hr1,hr2]) (fun V0 Kb Nx=>?_)
 have fx:=trivial
 repeat' (first|refine stp [0,1,4,5,7,9,10,11,12,19] ?_|(refine RS.sE ?_;refine rnx ?_)|(refine RS.mM ?_;refine rnx ?_)|(refine RS.lC ?_;refine rnx ?_)|(refine RS.xC ?_;refine rnx ?_)|refine WP.cn (fun hc=>?_) (fun hc=>?_)|fail)
 refine WP.each l Vr.at 13 (fun k=>[(0,.a (.ptr 0 0)),(5,.a (.mp 3)),(9,.a (.sl (l.map Vr.at))),(10,.a (.v (.int .i64 (l.length:Nat)))),(11,.a (.v (.int .i64 (k:Nat))))]) (fun k=>[.cell (ckAt p 0 0),.map .str false (mpS A1),.map .str false (mpS A2),.map .str false (mpS (ones ((l.take k).map Vr.name)))]) (fun k=>twV [] l=twV ((l.take k).map Vr.name) (l.drop k)) (by simp only [Agree,go_sem,simprocAttr];first|done|rfl) rfl rfl hn (fun z=>Vr.len z) ?_ ?_
 ·intro k z hz hdr htk hlt hI hlt2 hix hwu
  rw [twV_round hdr htk] at hI
  have htk2:(l.take (k+1)).map Vr.name=(l.take k).map Vr.name++[z.name]:=by rw [htk,List.map_append];rfl
  cases hs:((l.take k).map Vr.name).any fun y=>y==z.name with
  | true =>
   rw [hs,if_pos rfl] at hI
   have ho:=once_yes hs
   have hv:varsF l=some (7,z.at_):=by unfold varsF;rw [hI];rfl
   rw [hv]
   unfold ckAt
   replace fx:=And.intro hlt2 (And.intro hix (And.intro hwu trivial))
   repeat' (first|refine stp [0,1,4,5,7,9,10,11,12,19] ?_|(refine RS.sE ?_;refine rnx ?_)|(refine RS.mM ?_;refine rnx ?_)|(refine RS.lC ?_;refine rnx ?_)|(refine RS.xC ?_;refine rnx ?_)|(refine RS.cM [3] (hp:=by exact ho) (h:=?_);refine rnx ?_)|(refine RS.cM [0,1,2] (hp:=by exact ptBadC p _ _ _ _ _ _) (h:=?_);refine rnx ?_)|refine WP.cn (fun hc=>?_) (fun hc=>?_)|fail)
   exact retM1 ⟨rfl,_,rfl⟩
  | false =>
   rw [hs,if_neg Bool.false_ne_true] at hI
   have ho:=once_no hs
   rw [←htk2] at ho
   unfold ckAt
   replace fx:=And.intro hlt2 (And.intro hix (And.intro hwu trivial))
   repeat' (first|refine stp [0,1,4,5,7,9,10,11,12,19] ?_|(refine RS.sE ?_;refine rnx ?_)|(refine RS.mM ?_;refine rnx ?_)|(refine RS.lC ?_;refine rnx ?_)|(refine RS.xC ?_;refine rnx ?_)|(refine RS.cM [3] (hp:=by exact ho) (h:=?_);refine rnx ?_)|refine WP.cn (fun hc=>?_) (fun hc=>?_)|fail)
   exact⟨hI,_,by simp only [Agree,go_sem,simprocAttr],rfl,rfl,by simp only [go_sem,simprocAttr,hr3]⟩
 ·intro hI hlt2
  rw [List.drop_length,twV] at hI
  have hv:varsF l=none:=by unfold varsF;rw [hI];rfl
  rw [hv]
  unfold ckAt
  replace fx:=And.intro hlt2 trivial
  repeat' (first|refine stp [0,1,4,5,7,9,10,11,12,19] ?_|(refine RS.sE ?_;refine rnx ?_)|(refine RS.mM ?_;refine rnx ?_)|(refine RS.lC ?_;refine rnx ?_)|(refine RS.xC ?_;refine rnx ?_)|refine WP.cn (fun hc=>?_) (fun hc=>?_)|fail)
  exact retM1 ⟨rfl,_,rfl⟩
theorem methF_round {l:List Me} {k:Nat} {z:Me} (hd:l.drop k=z::l.drop (k+1)) (ht:l.take (k+1)=l.take k++[z]):methF ((l.take k).map Me.name) (l.drop k)=if (((l.take k).map Me.name).any fun y=>y==z.name)=true then some (7,z.at_) else match varsF (z.params++z.locals) with
  | some f=>some f
  | none=>methF ((l.take (k+1)).map Me.name) (l.drop (k+1)):=by
 rw [hd,methF,ht,List.map_append];rfl
theorem ptMethods (p:List Cs) (A1 A2:List (List UInt8×Int)) (l:List Me) (hn:sumOf Me.sz l≤1048576):DM Tryz.prog 43 [.a (.ptr 0 0),.a (.sl (l.map Me.at))] [.cell (ckAt p 0 0),.map .str false (mpS A1),.map .str false (mpS A2)] (.a (.v (.bool (isOk (methF [] l))))) [.cell (ckAt p (fOf (methF [] l)).1 (fOf (methF [] l)).2),.map .str false (mpS A1),.map .str false (mpS A2)]:=by
 have hll:=sumOf_len Me.sz_pos l
 unfold ckAt
 refine DM.intro Tryz.func43 rfl Tryz.ntmps43 rfl rfl rfl (by simp only [go_sem,simprocAttr]) (fun V0 Kb Nx=>?_)
 have fx:=trivial
 repeat' (first|refine stp [0,1,4,5,7,9,10,11,12,19,28] ?_|(refine RS.sE ?_;refine rnx ?_)|(refine RS.mM ?_;refine rnx ?_)|(refine RS.lC ?_;refine rnx ?_)|(refine RS.xC ?_;refine rnx ?_)|refine WP.cn (fun hc=>?_) (fun hc=>?_)|fail)
 refine WP.each l Me.at 17 (fun k=>[(0,.a (.ptr 0 0)),(5,.a (.mp 3)),(9,.a (.sl (l.map Me.at))),(10,.a (.v (.int .i64 (l.length:Nat)))),(11,.a (.v (.int .i64 (k:Nat))))]) (fun k=>[.cell (ckAt p 0 0),.map .str false (mpS A1),.map .str false (mpS A2),.map .str false (mpS (ones ((l.take k).map Me.name)))]) (fun k=>methF [] l=methF ((l.take k).map Me.name) (l.drop k)) (by simp only [Agree,go_sem,simprocAttr];first|done|rfl) rfl rfl (by omega) (fun z=>Me.len z) ?_ ?_
 ·intro k z hz hdr htk hlt hI hlt2 hix hwu
  rw [methF_round hdr htk] at hI
  have htk2:(l.take (k+1)).map Me.name=(l.take k).map Me.name++[z.name]:=by rw [htk,List.map_append];rfl
  have hzs:z.sz≤1048576:=by have:=sumOf_mem (f:=Me.sz) (List.mem_of_getElem? hz);omega
  obtain⟨y1,y2,y3,y4,y5,y6⟩:=Me.szH hzs
  cases hs:((l.take k).map Me.name).any fun y=>y==z.name with
  | true =>
   rw [hs,if_pos rfl] at hI
   have ho:=once_yes hs
   rw [hI]
   unfold ckAt
   replace fx:=And.intro hlt2 (And.intro hix (And.intro hwu trivial))
   repeat' (first|refine stp [0,1,4,5,7,9,10,11,12,19,28] ?_|(refine RS.sE ?_;refine rnx ?_)|(refine RS.mM ?_;refine rnx ?_)|(refine RS.lC ?_;refine rnx ?_)|(refine RS.xC ?_;refine rnx ?_)|(refine RS.cM [3] (hp:=by exact ho) (h:=?_);refine rnx ?_)|(refine RS.cM [0,1,2] (hp:=by exact ptBadC p _ _ _ _ _ _) (h:=?_);refine rnx ?_)|refine WP.cn (fun hc=>?_) (fun hc=>?_)|fail)
   exact retM1 ⟨rfl,_,rfl⟩
  | false =>
   rw [hs,if_neg Bool.false_ne_true] at hI
   have ho:=once_no hs
   rw [←htk2] at ho
   have hva:=pVarsA z (by omega) (by omega)
   have hvs:=ptVars p A1 A2 (z.params++z.locals) (by rw [List.length_append];omega)
   cases hv:varsF (z.params++z.locals) with
   | some f =>
    rw [hv] at hI hvs
    rw [hI]
    unfold ckAt
    replace fx:=And.intro hlt2 (And.intro hix (And.intro hwu trivial))
    repeat' (first|refine stp [0,1,4,5,7,9,10,11,12,19,28] ?_|(refine RS.sE ?_;refine rnx ?_)|(refine RS.mM ?_;refine rnx ?_)|(refine RS.lC ?_;refine rnx ?_)|(refine RS.xC ?_;refine rnx ?_)|(refine stc (r1:=by exact hva) (r2:=?_);refine rnx ?_)|(refine RS.cM [3] (hp:=by exact ho) (h:=?_);refine rnx ?_)|(refine RS.cM [0,1,2] (hp:=by exact hvs) (h:=?_);refine rnx ?_)|refine WP.cn (fun hc=>?_) (fun hc=>?_)|fail)
    exact retM1 ⟨rfl,_,rfl⟩
   | none =>
    rw [hv] at hI hvs
    unfold ckAt
    replace fx:=And.intro hlt2 (And.intro hix (And.intro hwu trivial))
    repeat' (first|refine stp [0,1,4,5,7,9,10,11,12,19,28] ?_|(refine RS.sE ?_;refine rnx ?_)|(refine RS.mM ?_;refine rnx ?_)|(refine RS.lC ?_;refine rnx ?_)|(refine RS.xC ?_;refine rnx ?_)|(refine stc (r1:=by exact hva) (r2:=?_);refine rnx ?_)|(refine RS.cM [3] (hp:=by exact ho) (h:=?_);refine rnx ?_)|(refine RS.cM [0,1,2] (hp:=by exact hvs) (h:=?_);refine rnx ?_)|refine WP.cn (fun hc=>?_) (fun hc=>?_)|fail)
    exact⟨hI,_,by simp only [Agree,go_sem,simprocAttr],rfl,rfl,by simp only [go_sem,simprocAttr]⟩
 ·intro hI hlt2
  rw [List.drop_length,methF] at hI
  rw [hI]
  unfold ckAt
  replace fx:=And.intro hlt2 trivial
  repeat' (first|refine stp [0,1,4,5,7,9,10,11,12,19,28] ?_|(refine RS.sE ?_;refine rnx ?_)|(refine RS.mM ?_;refine rnx ?_)|(refine RS.lC ?_;refine rnx ?_)|(refine RS.xC ?_;refine rnx ?_)|refine WP.cn (fun hc=>?_) (fun hc=>?_)|fail)
  exact retM1 ⟨rfl,_,rfl⟩
def AOk (p:List Cs) (A1:List (List UInt8×Int)):Prop:=∀s,(arityI p s<0→hasI A1 s=false)∧(0≤arityI p s→hasI A1 s=true∧lkI A1 s=arityI p s)
theorem typF_round {p:List Cs} {l:List Nt} {k:Nat} {t:Nt} (hd:l.drop k=t::l.drop (k+1)):typF p (l.drop k)=if (t.t.kind==2)=false then typF p (l.drop (k+1)) else if arityI p t.t.cls<0 then some (8,t.a) else if (t.t.n != 0&&t.t.n != arityI p t.t.cls)=true then some (10,t.a) else typF p (l.drop (k+1)):=by
 rw [hd,typF];rfl
theorem ptTypes (p:List Cs) (A1 A2:List (List UInt8×Int)) (c:Cs) (hA:AOk p A1) (hT:DPure Tryz.prog 95 [.a (.sl ([c].map Cs.at))] (.a (.sl ((typesL [c]).map Nt.at)))) (hn:(typesL [c]).length≤4194304):DM Tryz.prog 41 [.a (.ptr 0 0),.r (Cs.at c)] [.cell (ckAt p 0 0),.map .str false (mpS A1),.map .str false (mpS A2)] (.a (.v (.bool (isOk (typF p (typesL [c])))))) [.cell (ckAt p (fOf (typF p (typesL [c]))).1 (fOf (typF p (typesL [c]))).2),.map .str false (mpS A1),.map .str false (mpS A2)]:=by
 generalize typesL [c]=l at hT hn ⊢
 replace hT:DPure Tryz.prog 95 [.a (.sl [Cs.at c])] (.a (.sl (l.map Nt.at))):=hT
 unfold ckAt
 refine DM.intro Tryz.func41 rfl Tryz.ntmps41 rfl rfl rfl (by simp only [go_sem,simprocAttr]) (fun V0 Kb Nx=>?_)
 have fx:=trivial
 have hnz:=Nt.z0
 repeat' (first|refine stp [0,1,3,4,6,7,8,11,12,13,14,20,32,39] ?_|(refine RS.ls ?_;refine rnx ?_)|(refine RS.sE ?_;refine rnx ?_)|(refine RS.lk ?_;refine rnx ?_)|(refine RS.pk ?_;refine rnx ?_)|(refine RS.gF ?_;refine rnx ?_)|(refine RS.lC ?_;refine rnx ?_)|(refine RS.xC ?_;refine rnx ?_)|(refine RS.bC ?_;refine rnx ?_)|(refine stc (r1:=by exact hT) (r2:=?_);refine rnx ?_)|refine WP.cn (fun hc=>?_) (fun hc=>?_)|(refine RQ.lk ?_;refine rnx ?_)|((first|refine WP.dw (id:=5) 13 [0,1,3,4,6,7,8,11,12,13,14,20,32,39] ?_);simp only [RQr_mk,List.drop_succ_cons,List.drop_zero,List.drop_nil])|fail)
 refine WP.each l Nt.at 15 (fun k=>[(0,.a (.ptr 0 0)),(11,.a (.sl (l.map Nt.at))),(12,.a (.v (.int .i64 (l.length:Nat)))),(13,.a (.v (.int .i64 (k:Nat))))]) (fun k=>[.cell (ckAt p 0 0),.map .str false (mpS A1),.map .str false (mpS A2),.cell (Cs.at c)]) (fun k=>typF p l=typF p (l.drop k)) (by simp only [Agree,go_sem,simprocAttr];first|done|rfl) rfl rfl hn (fun z=>Nt.len z) ?_ ?_
 ·intro k t hz hdr htk hlt hI hlt2 hix hwu
  rw [typF_round hdr] at hI
  have hval:=mpS_val A1 t.t.cls
  have hhas:=mpS_has A1 t.t.cls
  obtain⟨a1,a2⟩:=hA t.t.cls
  cases hk:t.t.kind==2 with
  | false =>
   rw [hk,if_pos rfl] at hI
   have hk2:(t.t.kind != 2)=true:=by rw [bne,hk];rfl
   unfold ckAt
   replace fx:=And.intro hlt2 (And.intro hix (And.intro hwu (And.intro hnz (And.intro hk2 trivial))))
   repeat' (first|refine stp [0,1,3,4,6,7,8,11,12,13,14,20,32,39] ?_|(refine RS.ls ?_;refine rnx ?_)|(refine RS.sE ?_;refine rnx ?_)|(refine RS.lk ?_;refine rnx ?_)|(refine RS.pk ?_;refine rnx ?_)|(refine RS.gF ?_;refine rnx ?_)|(refine RS.lC ?_;refine rnx ?_)|(refine RS.xC ?_;refine rnx ?_)|(refine RS.bC ?_;refine rnx ?_)|refine WP.cn (fun hc=>?_) (fun hc=>?_)|(refine RQ.lk ?_;refine rnx ?_)|((first|refine WP.dw (id:=5) 13 [0,1,3,4,6,7,8,11,12,13,14,20,32,39] ?_);simp only [RQr_mk,List.drop_succ_cons,List.drop_zero,List.drop_nil])|fail)
   exact⟨hI,_,by simp only [Agree,go_sem,simprocAttr],rfl,rfl,by simp only [go_sem,simprocAttr]⟩
  | true =>
   rw [hk,if_neg (by simp)] at hI
   have hk2:(t.t.kind != 2)=false:=by rw [bne,hk];rfl
   by_cases ha:arityI p t.t.cls<0
   ·rw [if_pos ha] at hI
    have h1:=a1 ha
    rw [hI]
    unfold ckAt
    replace fx:=And.intro hlt2 (And.intro hix (And.intro hwu (And.intro hnz (And.intro hk2 (And.intro hval (And.intro hhas (And.intro h1 trivial)))))))
    repeat' (first|refine stp [0,1,3,4,6,7,8,11,12,13,14,20,32,39] ?_|(refine RS.ls ?_;refine rnx ?_)|(refine RS.sE ?_;refine rnx ?_)|(refine RS.lk ?_;refine rnx ?_)|(refine RS.pk ?_;refine rnx ?_)|(refine RS.gF ?_;refine rnx ?_)|(refine RS.lC ?_;refine rnx ?_)|(refine RS.xC ?_;refine rnx ?_)|(refine RS.bC ?_;refine rnx ?_)|(refine RS.cM [0,1,2] (hp:=by exact ptBadC p _ _ _ _ _ _) (h:=?_);refine rnx ?_)|refine WP.cn (fun hc=>?_) (fun hc=>?_)|(refine RQ.lk ?_;refine rnx ?_)|((first|refine WP.dw (id:=5) 13 [0,1,3,4,6,7,8,11,12,13,14,20,32,39] ?_);simp only [RQr_mk,List.drop_succ_cons,List.drop_zero,List.drop_nil])|fail)
    exact retM1 ⟨rfl,_,rfl⟩
   ·rw [if_neg ha] at hI
    obtain⟨h1,h2⟩:=a2 (by omega)
    cases hb:(t.t.n != 0&&t.t.n != arityI p t.t.cls) with
    | true =>
     rw [hb,if_pos rfl] at hI
     rw [Bool.and_eq_true] at hb
     obtain⟨hb1,hb2⟩:=hb
     rw [hI]
     unfold ckAt
     replace fx:=And.intro hlt2 (And.intro hix (And.intro hwu (And.intro hnz (And.intro hk2 (And.intro hval (And.intro hhas (And.intro h1 (And.intro h2 (And.intro hb1 (And.intro hb2 trivial))))))))))
     repeat' (first|refine stp [0,1,3,4,6,7,8,11,12,13,14,20,32,39] ?_|(refine RS.ls ?_;refine rnx ?_)|(refine RS.sE ?_;refine rnx ?_)|(refine RS.lk ?_;refine rnx ?_)|(refine RS.pk ?_;refine rnx ?_)|(refine RS.gF ?_;refine rnx ?_)|(refine RS.lC ?_;refine rnx ?_)|(refine RS.xC ?_;refine rnx ?_)|(refine RS.bC ?_;refine rnx ?_)|(refine RS.cM [0,1,2] (hp:=by exact ptBadC p _ _ _ _ _ _) (h:=?_);refine rnx ?_)|refine WP.cn (fun hc=>?_) (fun hc=>?_)|(refine RQ.lk ?_;refine rnx ?_)|((first|refine WP.dw (id:=5) 13 [0,1,3,4,6,7,8,11,12,13,14,20,32,39] ?_);simp only [RQr_mk,List.drop_succ_cons,List.drop_zero,List.drop_nil])|fail)
     exact retM1 ⟨rfl,_,rfl⟩
    | false =>
     rw [hb,if_neg Bool.false_ne_true] at hI
     cases hb1:t.t.n != 0 with
     | false =>
      unfold ckAt
      replace fx:=And.intro hlt2 (And.intro hix (And.intro hwu (And.intro hnz (And.intro hk2 (And.intro hval (And.intro hhas (And.intro h1 (And.intro h2 (And.intro hb1 trivial)))))))))
      repeat' (first|refine stp [0,1,3,4,6,7,8,11,12,13,14,20,32,39] ?_|(refine RS.ls ?_;refine rnx ?_)|(refine RS.sE ?_;refine rnx ?_)|(refine RS.lk ?_;refine rnx ?_)|(refine RS.pk ?_;refine rnx ?_)|(refine RS.gF ?_;refine rnx ?_)|(refine RS.lC ?_;refine rnx ?_)|(refine RS.xC ?_;refine rnx ?_)|(refine RS.bC ?_;refine rnx ?_)|refine WP.cn (fun hc=>?_) (fun hc=>?_)|(refine RQ.lk ?_;refine rnx ?_)|((first|refine WP.dw (id:=5) 13 [0,1,3,4,6,7,8,11,12,13,14,20,32,39] ?_);simp only [RQr_mk,List.drop_succ_cons,List.drop_zero,List.drop_nil])|fail)
      exact⟨hI,_,by simp only [Agree,go_sem,simprocAttr],rfl,rfl,by simp only [go_sem,simprocAttr]⟩
     | true =>
      rw [hb1,Bool.true_and] at hb
      unfold ckAt
      replace fx:=And.intro hlt2 (And.intro hix (And.intro hwu (And.intro hnz (And.intro hk2 (And.intro hval (And.intro hhas (And.intro h1 (And.intro h2 (And.intro hb1 (And.intro hb trivial))))))))))
      repeat' (first|refine stp [0,1,3,4,6,7,8,11,12,13,14,20,32,39] ?_|(refine RS.ls ?_;refine rnx ?_)|(refine RS.sE ?_;refine rnx ?_)|(refine RS.lk ?_;refine rnx ?_)|(refine RS.pk ?_;refine rnx ?_)|(refine RS.gF ?_;refine rnx ?_)|(refine RS.lC ?_;refine rnx ?_)|(refine RS.xC ?_;refine rnx ?_)|(refine RS.bC ?_;refine rnx ?_)|refine WP.cn (fun hc=>?_) (fun hc=>?_)|(refine RQ.lk ?_;refine rnx ?_)|((first|refine WP.dw (id:=5) 13 [0,1,3,4,6,7,8,11,12,13,14,20,32,39] ?_);simp only [RQr_mk,List.drop_succ_cons,List.drop_zero,List.drop_nil])|fail)
      exact⟨hI,_,by simp only [Agree,go_sem,simprocAttr],rfl,rfl,by simp only [go_sem,simprocAttr]⟩
 ·intro hI hlt2
  rw [List.drop_length,typF] at hI
  rw [hI]
  unfold ckAt
  replace fx:=And.intro hlt2 trivial
  repeat' (first|refine stp [0,1,3,4,6,7,8,11,12,13,14,20,32,39] ?_|(refine RS.ls ?_;refine rnx ?_)|(refine RS.sE ?_;refine rnx ?_)|(refine RS.lk ?_;refine rnx ?_)|(refine RS.pk ?_;refine rnx ?_)|(refine RS.gF ?_;refine rnx ?_)|(refine RS.lC ?_;refine rnx ?_)|(refine RS.xC ?_;refine rnx ?_)|(refine RS.bC ?_;refine rnx ?_)|refine WP.cn (fun hc=>?_) (fun hc=>?_)|(refine RQ.lk ?_;refine rnx ?_)|((first|refine WP.dw (id:=5) 13 [0,1,3,4,6,7,8,11,12,13,14,20,32,39] ?_);simp only [RQr_mk,List.drop_succ_cons,List.drop_zero,List.drop_nil])|fail)
  exact retM1 ⟨rfl,_,rfl⟩
end Go.Proofs.YtibdalkdgjghoaaGreatDoor
