/- size.Bare and what it calls, on plain data. Conditions: at most 2^20 of anything. -/
import Derived.Test.YtfbopaaambkfkaaGreatDoorMg19
import Derived.Test.YtfbopaaambkfkaaGreatDoorMg43
import Derived.Test.YtfbopaaambkfkaaGreatDoorMg13
import Derived.Test.YtfbopaaambkfkaaGreatDoorMg8
set_option linter.unusedVariables false
set_option maxRecDepth 100000
set_option maxHeartbeats 8000000
set_option linter.unusedSimpArgs false
namespace Go.Proofs.YtfbopaaambkfkaaGreatDoor
open Go.RowKit
def part {α:Type} (f:α→List A) (z:List A) (l:List α) (k:Nat):List (List A):=(l.take k).map f++List.replicate (l.length-k) z
theorem qjl {α:Type} (f:α→List A) (z:List A) (l:List α):part f z l 0=List.replicate l.length z:=by simp [part]
theorem qfg {α:Type} (f:α→List A) (z:List A) (l:List α):part f z l l.length=l.map f:=by simp [part]
theorem qfe {α:Type} (f:α→List A) (z:List A) (l:List α) {k:Nat} (h:k≤l.length):(part f z l k).length=l.length:=by simp [part];omega
theorem qff {α:Type} (f:α→List A) (z:List A) (l:List α) {k:Nat} (h:k<l.length):(part f z l k)[k]? = some z:=by
 unfold part
 rw [List.getElem?_append_right (by simp;omega)]
 simp only [List.length_map,List.length_take,Nat.min_eq_left (Nat.le_of_lt h),Nat.sub_self]
 rw [List.getElem?_replicate,if_pos (by omega)]
theorem qfd {α:Type} (f:α→List A) (z:List A) (l:List α) {k:Nat} {x:α} (h:l[k]? = some x):(part f z l k).set k (f x)=part f z l (k+1):=by
 have hlt:=(List.getElem?_eq_some_iff.1 h).1
 unfold part
 rw [List.set_append,if_neg (by simp;omega),List.take_add_one,h]
 simp only [List.length_map,List.length_take,Nat.min_eq_left (Nat.le_of_lt hlt),Nat.sub_self,Option.toList,List.map_append,List.map_cons,List.map_nil,List.append_assoc]
 congr 1
 rw [show l.length-k=(l.length-(k+1))+1 by omega,List.replicate_succ,List.set_cons_zero];rfl
theorem pblVar (g:Vr→Vr) (l:List Vr) (fn:FuncId) (hn:l.length≤1048576) (hf:∀k∈l,qaa Tryz.prog fn [.r (Vr.at k)] (.r (Vr.at (g k)))):qaa Tryz.prog 47 [.a (.sl (l.map Vr.at)),.a (.fn fn [])] (.a (.sl ((l.map g).map Vr.at))):=by
 refine qaa.go Tryz.func47 rfl Tryz.ntmps47 rfl rfl rfl (fun C hro=>?_)
 have fx:=trivial
 repeat' (first|refine stp [0,1,4,5,6,7,11,12,13,14] ?_|(refine RS.mS ?_;refine rnx ?_)|(refine RS.sE ?_;refine rnx ?_)|(refine RS.lC ?_;refine rnx ?_)|(refine RS.xC ?_;refine rnx ?_)|refine WP.cn (fun hc=>?_) (fun hc=>?_)|fail)
 refine WP.loopX (α:={ k:Nat // k≤l.length }) (fun y=>[(0,.a (.sl (l.map Vr.at))),(1,.a (.fn fn [])),(4,.a .nl),(5,.a (.own 0 0)),(11,.a (.sl (l.map Vr.at))),(12,.a (.v (.int .i64 (l.length:Nat)))),(13,.a (.v (.int .i64 (y.1:Nat))))]) (fun y=>[.arr 0 13 (part (fun x=>Vr.at (g x)) (Vr.at Vr.zero) l y.1)]) (fun y=>l.length-y.1) ⟨0,by omega⟩ (by simp only [qal,go_sem,simprocAttr];first|done|rfl) (by simp only [qjl]) ?_
 rintro⟨k,hk⟩
 dsimp only
 by_cases hlt:k<l.length
 ·have hlt2:decide ((k:Int)<((l.length:Nat):Int))=true:=decide_eq_true (by omega)
  obtain⟨z,hz⟩:∃z,l[k]? = some z:=⟨_,List.getElem?_eq_getElem hlt⟩
  have hzm:z∈l:=lm4 hz
  have hzt:=qag hz
  have hix:∀q2,ixD (some 13) q2 (.a (.sl (l.map Vr.at))) (.a (.v (.int .i64 (k:Int))))=some (.a (.ref (Vr.at z) 0)):=fun q2=>qar rfl (by rw [List.getElem?_map,hz];rfl) (by simp only [go_sem])
  have hpg:=qff (fun x=>Vr.at (g x)) (Vr.at Vr.zero) l hlt
  have hps:=qfd (fun x=>Vr.at (g x)) (Vr.at Vr.zero) l hz
  have hwu:=qa8 (k:=k) (by omega)
  have hix2:∀q2 r,ixS (.arr 0 13 (part (fun x=>Vr.at (g x)) (Vr.at Vr.zero) l k)::r) (some 13) q2 (.a (.own 0 0)) (.a (.v (.int .i64 (k:Nat))))=some (.a (.ep 0 0 k 0)):=fun q2 r=>qet rfl rfl (by rw [qfe _ _ _ hk];exact hlt) rfl
  replace fx:=ai12 hlt2 (ai12 hix (ai12 hwu (ai12 hpg (ai12 hps (ai12 hix2 trivial)))))
  repeat' (first|refine stp [0,1,4,5,6,7,11,12,13,14] ?_|(refine RS.mS ?_;refine rnx ?_)|(refine RS.sE ?_;refine rnx ?_)|(refine RS.lC ?_;refine rnx ?_)|(refine RS.xC ?_;refine rnx ?_)|(refine stc (r1:=by exact hf z hzm) (r2:=?_);refine rnx ?_)|refine WP.cn (fun hc=>?_) (fun hc=>?_)|fail)
  refine⟨⟨k+1,by omega⟩,[.cell (Vr.at z)],by dsimp only;omega,by simp only [qal,go_sem,simprocAttr],rfl,by simp only [nrE,nrD,List.all_cons,List.all_nil,go_sem,simprocAttr],by simp only [go_sem]⟩
 obtain rfl:k=l.length:=by omega
 have hlt2:decide ((l.length:Int)<(l.length:Int))=false:=decide_eq_false (by omega)
 have hpa:=qfg (fun x=>Vr.at (g x)) (Vr.at Vr.zero) l
 replace fx:=ai12 hlt2 (ai12 hpa trivial)
 repeat' (first|refine stp [0,1,4,5,6,7,11,12,13,14] ?_|(refine RS.mS ?_;refine rnx ?_)|(refine RS.sE ?_;refine rnx ?_)|(refine RS.lC ?_;refine rnx ?_)|(refine RS.xC ?_;refine rnx ?_)|refine WP.cn (fun hc=>?_) (fun hc=>?_)|fail)
 simp only [List.map_map];rfl
theorem pblExpr (g:Ex→Ex) (l:List Ex) (fn:FuncId) (hn:l.length≤1048576) (hf:∀k∈l,qaa Tryz.prog fn [.r (Ex.at k)] (.r (Ex.at (g k)))):qaa Tryz.prog 101 [.a (.sl (l.map Ex.at)),.a (.fn fn [])] (.a (.sl ((l.map g).map Ex.at))):=by
 refine qaa.go Tryz.func101 rfl Tryz.ntmps101 rfl rfl rfl (fun C hro=>?_)
 have fx:=trivial
 repeat' (first|refine stp [0,1,4,5,6,7,11,12,13,14] ?_|(refine RS.mS ?_;refine rnx ?_)|(refine RS.sE ?_;refine rnx ?_)|(refine RS.lC ?_;refine rnx ?_)|(refine RS.xC ?_;refine rnx ?_)|refine WP.cn (fun hc=>?_) (fun hc=>?_)|fail)
 refine WP.loopX (α:={ k:Nat // k≤l.length }) (fun y=>[(0,.a (.sl (l.map Ex.at))),(1,.a (.fn fn [])),(4,.a .nl),(5,.a (.own 0 0)),(11,.a (.sl (l.map Ex.at))),(12,.a (.v (.int .i64 (l.length:Nat)))),(13,.a (.v (.int .i64 (y.1:Nat))))]) (fun y=>[.arr 0 4 (part (fun x=>Ex.at (g x)) (Ex.at Ex.zero) l y.1)]) (fun y=>l.length-y.1) ⟨0,by omega⟩ (by simp only [qal,go_sem,simprocAttr];first|done|rfl) (by simp only [qjl]) ?_
 rintro⟨k,hk⟩
 dsimp only
 by_cases hlt:k<l.length
 ·have hlt2:decide ((k:Int)<((l.length:Nat):Int))=true:=decide_eq_true (by omega)
  obtain⟨z,hz⟩:∃z,l[k]? = some z:=⟨_,List.getElem?_eq_getElem hlt⟩
  have hzm:z∈l:=lm4 hz
  have hzt:=qag hz
  have hix:∀q2,ixD (some 4) q2 (.a (.sl (l.map Ex.at))) (.a (.v (.int .i64 (k:Int))))=some (.a (.ref (Ex.at z) 0)):=fun q2=>qar rfl (by rw [List.getElem?_map,hz];rfl) (by simp only [go_sem])
  have hpg:=qff (fun x=>Ex.at (g x)) (Ex.at Ex.zero) l hlt
  have hps:=qfd (fun x=>Ex.at (g x)) (Ex.at Ex.zero) l hz
  have hwu:=qa8 (k:=k) (by omega)
  have hix2:∀q2 r,ixS (.arr 0 4 (part (fun x=>Ex.at (g x)) (Ex.at Ex.zero) l k)::r) (some 4) q2 (.a (.own 0 0)) (.a (.v (.int .i64 (k:Nat))))=some (.a (.ep 0 0 k 0)):=fun q2 r=>qet rfl rfl (by rw [qfe _ _ _ hk];exact hlt) rfl
  replace fx:=ai12 hlt2 (ai12 hix (ai12 hwu (ai12 hpg (ai12 hps (ai12 hix2 trivial)))))
  repeat' (first|refine stp [0,1,4,5,6,7,11,12,13,14] ?_|(refine RS.mS ?_;refine rnx ?_)|(refine RS.sE ?_;refine rnx ?_)|(refine RS.lC ?_;refine rnx ?_)|(refine RS.xC ?_;refine rnx ?_)|(refine stc (r1:=by exact hf z hzm) (r2:=?_);refine rnx ?_)|refine WP.cn (fun hc=>?_) (fun hc=>?_)|fail)
  refine⟨⟨k+1,by omega⟩,[.cell (Ex.at z)],by dsimp only;omega,by simp only [qal,go_sem,simprocAttr],rfl,by simp only [nrE,nrD,List.all_cons,List.all_nil,go_sem,simprocAttr],by simp only [go_sem]⟩
 obtain rfl:k=l.length:=by omega
 have hlt2:decide ((l.length:Int)<(l.length:Int))=false:=decide_eq_false (by omega)
 have hpa:=qfg (fun x=>Ex.at (g x)) (Ex.at Ex.zero) l
 replace fx:=ai12 hlt2 (ai12 hpa trivial)
 repeat' (first|refine stp [0,1,4,5,6,7,11,12,13,14] ?_|(refine RS.mS ?_;refine rnx ?_)|(refine RS.sE ?_;refine rnx ?_)|(refine RS.lC ?_;refine rnx ?_)|(refine RS.xC ?_;refine rnx ?_)|refine WP.cn (fun hc=>?_) (fun hc=>?_)|fail)
 simp only [List.map_map];rfl
theorem qkj (g:St→St) (l:List St) (fn:FuncId) (hn:l.length≤1048576) (hf:∀k∈l,qaa Tryz.prog fn [.r (St.at k)] (.r (St.at (g k)))):qaa Tryz.prog 75 [.a (.sl (l.map St.at)),.a (.fn fn [])] (.a (.sl ((l.map g).map St.at))):=by
 refine qaa.go Tryz.func75 rfl Tryz.ntmps75 rfl rfl rfl (fun C hro=>?_)
 have fx:=trivial
 repeat' (first|refine stp [0,1,4,5,6,7,11,12,13,14] ?_|(refine RS.mS ?_;refine rnx ?_)|(refine RS.sE ?_;refine rnx ?_)|(refine RS.lC ?_;refine rnx ?_)|(refine RS.xC ?_;refine rnx ?_)|refine WP.cn (fun hc=>?_) (fun hc=>?_)|fail)
 refine WP.loopX (α:={ k:Nat // k≤l.length }) (fun y=>[(0,.a (.sl (l.map St.at))),(1,.a (.fn fn [])),(4,.a .nl),(5,.a (.own 0 0)),(11,.a (.sl (l.map St.at))),(12,.a (.v (.int .i64 (l.length:Nat)))),(13,.a (.v (.int .i64 (y.1:Nat))))]) (fun y=>[.arr 0 23 (part (fun x=>St.at (g x)) (St.at St.zero) l y.1)]) (fun y=>l.length-y.1) ⟨0,by omega⟩ (by simp only [qal,go_sem,simprocAttr];first|done|rfl) (by simp only [qjl]) ?_
 rintro⟨k,hk⟩
 dsimp only
 by_cases hlt:k<l.length
 ·have hlt2:decide ((k:Int)<((l.length:Nat):Int))=true:=decide_eq_true (by omega)
  obtain⟨z,hz⟩:∃z,l[k]? = some z:=⟨_,List.getElem?_eq_getElem hlt⟩
  have hzm:z∈l:=lm4 hz
  have hzt:=qag hz
  have hix:∀q2,ixD (some 23) q2 (.a (.sl (l.map St.at))) (.a (.v (.int .i64 (k:Int))))=some (.a (.ref (St.at z) 0)):=fun q2=>qar rfl (by rw [List.getElem?_map,hz];rfl) (by simp only [go_sem])
  have hpg:=qff (fun x=>St.at (g x)) (St.at St.zero) l hlt
  have hps:=qfd (fun x=>St.at (g x)) (St.at St.zero) l hz
  have hwu:=qa8 (k:=k) (by omega)
  have hix2:∀q2 r,ixS (.arr 0 23 (part (fun x=>St.at (g x)) (St.at St.zero) l k)::r) (some 23) q2 (.a (.own 0 0)) (.a (.v (.int .i64 (k:Nat))))=some (.a (.ep 0 0 k 0)):=fun q2 r=>qet rfl rfl (by rw [qfe _ _ _ hk];exact hlt) rfl
  replace fx:=ai12 hlt2 (ai12 hix (ai12 hwu (ai12 hpg (ai12 hps (ai12 hix2 trivial)))))
  repeat' (first|refine stp [0,1,4,5,6,7,11,12,13,14] ?_|(refine RS.mS ?_;refine rnx ?_)|(refine RS.sE ?_;refine rnx ?_)|(refine RS.lC ?_;refine rnx ?_)|(refine RS.xC ?_;refine rnx ?_)|(refine stc (r1:=by exact hf z hzm) (r2:=?_);refine rnx ?_)|refine WP.cn (fun hc=>?_) (fun hc=>?_)|fail)
  refine⟨⟨k+1,by omega⟩,[.cell (St.at z)],by dsimp only;omega,by simp only [qal,go_sem,simprocAttr],rfl,by simp only [nrE,nrD,List.all_cons,List.all_nil,go_sem,simprocAttr],by simp only [go_sem]⟩
 obtain rfl:k=l.length:=by omega
 have hlt2:decide ((l.length:Int)<(l.length:Int))=false:=decide_eq_false (by omega)
 have hpa:=qfg (fun x=>St.at (g x)) (St.at St.zero) l
 replace fx:=ai12 hlt2 (ai12 hpa trivial)
 repeat' (first|refine stp [0,1,4,5,6,7,11,12,13,14] ?_|(refine RS.mS ?_;refine rnx ?_)|(refine RS.sE ?_;refine rnx ?_)|(refine RS.lC ?_;refine rnx ?_)|(refine RS.xC ?_;refine rnx ?_)|refine WP.cn (fun hc=>?_) (fun hc=>?_)|fail)
 simp only [List.map_map];rfl
theorem pblMeth (g:Me→Me) (l:List Me) (fn:FuncId) (hn:l.length≤1048576) (hf:∀k∈l,qaa Tryz.prog fn [.r (Me.at k)] (.r (Me.at (g k)))):qaa Tryz.prog 49 [.a (.sl (l.map Me.at)),.a (.fn fn [])] (.a (.sl ((l.map g).map Me.at))):=by
 refine qaa.go Tryz.func49 rfl Tryz.ntmps49 rfl rfl rfl (fun C hro=>?_)
 have fx:=trivial
 repeat' (first|refine stp [0,1,4,5,6,7,11,12,13,14] ?_|(refine RS.mS ?_;refine rnx ?_)|(refine RS.sE ?_;refine rnx ?_)|(refine RS.lC ?_;refine rnx ?_)|(refine RS.xC ?_;refine rnx ?_)|refine WP.cn (fun hc=>?_) (fun hc=>?_)|fail)
 refine WP.loopX (α:={ k:Nat // k≤l.length }) (fun y=>[(0,.a (.sl (l.map Me.at))),(1,.a (.fn fn [])),(4,.a .nl),(5,.a (.own 0 0)),(11,.a (.sl (l.map Me.at))),(12,.a (.v (.int .i64 (l.length:Nat)))),(13,.a (.v (.int .i64 (y.1:Nat))))]) (fun y=>[.arr 0 17 (part (fun x=>Me.at (g x)) (Me.at Me.zero) l y.1)]) (fun y=>l.length-y.1) ⟨0,by omega⟩ (by simp only [qal,go_sem,simprocAttr];first|done|rfl) (by simp only [qjl]) ?_
 rintro⟨k,hk⟩
 dsimp only
 by_cases hlt:k<l.length
 ·have hlt2:decide ((k:Int)<((l.length:Nat):Int))=true:=decide_eq_true (by omega)
  obtain⟨z,hz⟩:∃z,l[k]? = some z:=⟨_,List.getElem?_eq_getElem hlt⟩
  have hzm:z∈l:=lm4 hz
  have hzt:=qag hz
  have hix:∀q2,ixD (some 17) q2 (.a (.sl (l.map Me.at))) (.a (.v (.int .i64 (k:Int))))=some (.a (.ref (Me.at z) 0)):=fun q2=>qar rfl (by rw [List.getElem?_map,hz];rfl) (by simp only [go_sem])
  have hpg:=qff (fun x=>Me.at (g x)) (Me.at Me.zero) l hlt
  have hps:=qfd (fun x=>Me.at (g x)) (Me.at Me.zero) l hz
  have hwu:=qa8 (k:=k) (by omega)
  have hix2:∀q2 r,ixS (.arr 0 17 (part (fun x=>Me.at (g x)) (Me.at Me.zero) l k)::r) (some 17) q2 (.a (.own 0 0)) (.a (.v (.int .i64 (k:Nat))))=some (.a (.ep 0 0 k 0)):=fun q2 r=>qet rfl rfl (by rw [qfe _ _ _ hk];exact hlt) rfl
  replace fx:=ai12 hlt2 (ai12 hix (ai12 hwu (ai12 hpg (ai12 hps (ai12 hix2 trivial)))))
  repeat' (first|refine stp [0,1,4,5,6,7,11,12,13,14] ?_|(refine RS.mS ?_;refine rnx ?_)|(refine RS.sE ?_;refine rnx ?_)|(refine RS.lC ?_;refine rnx ?_)|(refine RS.xC ?_;refine rnx ?_)|(refine stc (r1:=by exact hf z hzm) (r2:=?_);refine rnx ?_)|refine WP.cn (fun hc=>?_) (fun hc=>?_)|fail)
  refine⟨⟨k+1,by omega⟩,[.cell (Me.at z)],by dsimp only;omega,by simp only [qal,go_sem,simprocAttr],rfl,by simp only [nrE,nrD,List.all_cons,List.all_nil,go_sem,simprocAttr],by simp only [go_sem]⟩
 obtain rfl:k=l.length:=by omega
 have hlt2:decide ((l.length:Int)<(l.length:Int))=false:=decide_eq_false (by omega)
 have hpa:=qfg (fun x=>Me.at (g x)) (Me.at Me.zero) l
 replace fx:=ai12 hlt2 (ai12 hpa trivial)
 repeat' (first|refine stp [0,1,4,5,6,7,11,12,13,14] ?_|(refine RS.mS ?_;refine rnx ?_)|(refine RS.sE ?_;refine rnx ?_)|(refine RS.lC ?_;refine rnx ?_)|(refine RS.xC ?_;refine rnx ?_)|refine WP.cn (fun hc=>?_) (fun hc=>?_)|fail)
 simp only [List.map_map];rfl
theorem pblClass (g:Cs→Cs) (l:List Cs) (fn:FuncId) (hn:l.length≤1048576) (hf:∀k∈l,qaa Tryz.prog fn [.r (Cs.at k)] (.r (Cs.at (g k)))):qaa Tryz.prog 23 [.a (.sl (l.map Cs.at)),.a (.fn fn [])] (.a (.sl ((l.map g).map Cs.at))):=by
 refine qaa.go Tryz.func23 rfl Tryz.ntmps23 rfl rfl rfl (fun C hro=>?_)
 have fx:=trivial
 repeat' (first|refine stp [0,1,4,5,6,7,11,12,13,14] ?_|(refine RS.mS ?_;refine rnx ?_)|(refine RS.sE ?_;refine rnx ?_)|(refine RS.lC ?_;refine rnx ?_)|(refine RS.xC ?_;refine rnx ?_)|refine WP.cn (fun hc=>?_) (fun hc=>?_)|fail)
 refine WP.loopX (α:={ k:Nat // k≤l.length }) (fun y=>[(0,.a (.sl (l.map Cs.at))),(1,.a (.fn fn [])),(4,.a .nl),(5,.a (.own 0 0)),(11,.a (.sl (l.map Cs.at))),(12,.a (.v (.int .i64 (l.length:Nat)))),(13,.a (.v (.int .i64 (y.1:Nat))))]) (fun y=>[.arr 0 7 (part (fun x=>Cs.at (g x)) (Cs.at Cs.zero) l y.1)]) (fun y=>l.length-y.1) ⟨0,by omega⟩ (by simp only [qal,go_sem,simprocAttr];first|done|rfl) (by simp only [qjl]) ?_
 rintro⟨k,hk⟩
 dsimp only
 by_cases hlt:k<l.length
 ·have hlt2:decide ((k:Int)<((l.length:Nat):Int))=true:=decide_eq_true (by omega)
  obtain⟨z,hz⟩:∃z,l[k]? = some z:=⟨_,List.getElem?_eq_getElem hlt⟩
  have hzm:z∈l:=lm4 hz
  have hzt:=qag hz
  have hix:∀q2,ixD (some 7) q2 (.a (.sl (l.map Cs.at))) (.a (.v (.int .i64 (k:Int))))=some (.a (.ref (Cs.at z) 0)):=fun q2=>qar rfl (by rw [List.getElem?_map,hz];rfl) (by simp only [go_sem])
  have hpg:=qff (fun x=>Cs.at (g x)) (Cs.at Cs.zero) l hlt
  have hps:=qfd (fun x=>Cs.at (g x)) (Cs.at Cs.zero) l hz
  have hwu:=qa8 (k:=k) (by omega)
  have hix2:∀q2 r,ixS (.arr 0 7 (part (fun x=>Cs.at (g x)) (Cs.at Cs.zero) l k)::r) (some 7) q2 (.a (.own 0 0)) (.a (.v (.int .i64 (k:Nat))))=some (.a (.ep 0 0 k 0)):=fun q2 r=>qet rfl rfl (by rw [qfe _ _ _ hk];exact hlt) rfl
  replace fx:=ai12 hlt2 (ai12 hix (ai12 hwu (ai12 hpg (ai12 hps (ai12 hix2 trivial)))))
  repeat' (first|refine stp [0,1,4,5,6,7,11,12,13,14] ?_|(refine RS.mS ?_;refine rnx ?_)|(refine RS.sE ?_;refine rnx ?_)|(refine RS.lC ?_;refine rnx ?_)|(refine RS.xC ?_;refine rnx ?_)|(refine stc (r1:=by exact hf z hzm) (r2:=?_);refine rnx ?_)|refine WP.cn (fun hc=>?_) (fun hc=>?_)|fail)
  refine⟨⟨k+1,by omega⟩,[.cell (Cs.at z)],by dsimp only;omega,by simp only [qal,go_sem,simprocAttr],rfl,by simp only [nrE,nrD,List.all_cons,List.all_nil,go_sem,simprocAttr],by simp only [go_sem]⟩
 obtain rfl:k=l.length:=by omega
 have hlt2:decide ((l.length:Int)<(l.length:Int))=false:=decide_eq_false (by omega)
 have hpa:=qfg (fun x=>Cs.at (g x)) (Cs.at Cs.zero) l
 replace fx:=ai12 hlt2 (ai12 hpa trivial)
 repeat' (first|refine stp [0,1,4,5,6,7,11,12,13,14] ?_|(refine RS.mS ?_;refine rnx ?_)|(refine RS.sE ?_;refine rnx ?_)|(refine RS.lC ?_;refine rnx ?_)|(refine RS.xC ?_;refine rnx ?_)|refine WP.cn (fun hc=>?_) (fun hc=>?_)|fail)
 simp only [List.map_map];rfl
theorem pclStr (l:List (List UInt8)) (hn:l.length≤1048576):qaa Tryz.prog 45 [.a (.sl (l.map qaj))] (.a (.sl (l.map qaj))):=by
 refine qaa.go Tryz.func45 rfl Tryz.ntmps45 rfl rfl rfl (fun C hro=>?_)
 have fx:=trivial
 repeat' (first|refine stp [0,2,4] ?_|(refine RS.aO ?_;refine rnx ?_)|(refine RS.aN ?_;refine rnx ?_)|(refine RS.l0 ?_;refine rnx ?_)|(refine RS.aE ?_;refine rnx ?_)|(refine RS.aK ?_;refine rnx ?_)|refine WP.cn (fun hc=>?_) (fun hc=>?_)|fail)
 refine RS.eN fun b hb=>?_
 refine RS.run2 (by simp only [go_sem,simprocAttr,qab];first|done|rfl) ?_;simp only [qao]
 repeat' (first|refine stp [0,2,4] ?_|(refine RS.aO ?_;refine rnx ?_)|(refine RS.aN ?_;refine rnx ?_)|(refine RS.l0 ?_;refine rnx ?_)|(refine RS.aE ?_;refine rnx ?_)|(refine RS.aK ?_;refine rnx ?_)|refine WP.cn (fun hc=>?_) (fun hc=>?_)|fail)
 ·cases l with
  | nil=>rfl
  | cons=>exact absurd (hb (by simp)) (by rw [hc];simp)
 ·rfl
theorem pclOwn (l:List (Int×Int)) (hn:l.length≤1048576):qaa Tryz.prog 46 [.a (.sl (l.map owAt))] (.a (.sl (l.map owAt))):=by
 refine qaa.go Tryz.func46 rfl Tryz.ntmps46 rfl rfl rfl (fun C hro=>?_)
 have fx:=trivial
 repeat' (first|refine stp [0,2,4] ?_|(refine RS.aO ?_;refine rnx ?_)|(refine RS.aN ?_;refine rnx ?_)|(refine RS.l0 ?_;refine rnx ?_)|(refine RS.aE ?_;refine rnx ?_)|(refine RS.aK ?_;refine rnx ?_)|refine WP.cn (fun hc=>?_) (fun hc=>?_)|fail)
 refine RS.eN fun b hb=>?_
 refine RS.run2 (by simp only [go_sem,simprocAttr,qab];first|done|rfl) ?_;simp only [qao]
 repeat' (first|refine stp [0,2,4] ?_|(refine RS.aO ?_;refine rnx ?_)|(refine RS.aN ?_;refine rnx ?_)|(refine RS.l0 ?_;refine rnx ?_)|(refine RS.aE ?_;refine rnx ?_)|(refine RS.aK ?_;refine rnx ?_)|refine WP.cn (fun hc=>?_) (fun hc=>?_)|fail)
 ·cases l with
  | nil=>rfl
  | cons=>exact absurd (hb (by simp)) (by rw [hc];simp)
 ·rfl
theorem pbVar (v:Vr):qaa Tryz.prog 48 [.r (Vr.at v)] (.r (Vr.at v.bare)):=by
 refine qaa.go Tryz.func48 rfl Tryz.ntmps48 rfl rfl rfl (fun C hro=>?_)
 have fx:=trivial
 repeat' (first|refine stp [0,1,2] ?_|(refine RS.sE ?_;refine rnx ?_)|fail)
 rfl
theorem pbExpr:∀(m:Nat) (e:Ex),e.sz≤m→e.sz≤1048576→qaa Tryz.prog 100 [.r (Ex.at e)] (.r (Ex.at e))
 | 0,e,h,_=>by have:=e.sz_pos;omega
 | m+1,e,h,hz=>by
  have hl:=Ex.szs_len e.kids
  have hs:=Ex.sz_eq e
  have hk:∀k∈e.kids,qaa Tryz.prog 100 [.r (Ex.at k)] (.r (Ex.at (id k))):=fun k hk=>pbExpr m k (by have:=Ex.kid_lt hk;omega) (by have:=Ex.kid_lt hk;omega)
  refine qaa.go Tryz.func100 rfl Tryz.ntmps100 rfl rfl rfl (fun C hro=>?_)
  have fx:=trivial
  repeat' (first|refine stp [0,1,2] ?_|(refine RS.sE ?_;refine rnx ?_)|(refine stc (r1:=by exact pblExpr id e.kids 100 (by omega) hk) (r2:=?_);refine rnx ?_)|fail)
  simp only [List.map_id]
  cases e;rfl
theorem pbStmt:∀(m:Nat) (s:St),s.sz≤m→s.sz≤1048576→qaa Tryz.prog 76 [.r (St.at s)] (.r (St.at s.bare))
 | 0,s,h,_=>by have:=s.sz_pos;omega
 | m+1,s,h,hz=>by
  have hl1:=Ex.szs_len s.args
  have hl2:=St.szs_len s.body
  have hl3:=St.szs_len s.els
  have hs:=St.sz_eq s
  have hk1:∀k∈s.args,qaa Tryz.prog 100 [.r (Ex.at k)] (.r (Ex.at (id k))):=fun k hk=>pbExpr k.sz k (Nat.le_refl _) (by have:=Ex.szs_mem hk;omega)
  have hk2:∀k∈s.body,qaa Tryz.prog 76 [.r (St.at k)] (.r (St.at k.bare)):=fun k hk=>pbStmt m k (by have:=St.body_lt hk;omega) (by have:=St.body_lt hk;omega)
  have hk3:∀k∈s.els,qaa Tryz.prog 76 [.r (St.at k)] (.r (St.at k.bare)):=fun k hk=>pbStmt m k (by have:=St.els_lt hk;omega) (by have:=St.els_lt hk;omega)
  refine qaa.go Tryz.func76 rfl Tryz.ntmps76 rfl rfl rfl (fun C hro=>?_)
  have fx:=trivial
  repeat' (first|refine stp [0,1,2,8] ?_|(refine RS.sE ?_;refine rnx ?_)|(refine stc (r1:=by first|exact qjk s.e.sz s.e Ex.zero (Nat.le_refl _) (by omega)|exact pbExpr s.e.sz s.e (Nat.le_refl _) (by omega)|exact pblExpr id s.args 100 (by omega) hk1|exact qkj St.bare s.body 76 (by omega) hk2|exact qkj St.bare s.els 76 (by omega) hk3) (r2:=?_);refine rnx ?_)|refine WP.cn (fun hc=>?_) (fun hc=>?_)|fail)
  all_goals rw [St.bare_eq s,List.map_id,←St.bares_map,←St.bares_map]
theorem pbMethod (m:Me) (hz:m.sz≤1048576):qaa Tryz.prog 50 [.r (Me.at m)] (.r (Me.at m.bare)):=by
 have h1:=Me.szH hz
 have hl:=St.szs_len m.body
 have hk1:∀l:List Vr,∀k∈l,qaa Tryz.prog 48 [.r (Vr.at k)] (.r (Vr.at k.bare)):=fun _ k _=>pbVar k
 have hk2:∀k∈m.body,qaa Tryz.prog 76 [.r (St.at k)] (.r (St.at k.bare)):=fun k hk=>pbStmt k.sz k (Nat.le_refl _) (by have:=St.szs_mem hk;omega)
 refine qaa.go Tryz.func50 rfl Tryz.ntmps50 rfl rfl rfl (fun C hro=>?_)
 have fx:=trivial
 repeat' (first|refine stp [0,1,2] ?_|(refine RS.sE ?_;refine rnx ?_)|(refine stc (r1:=by first|exact pblVar Vr.bare m.params 48 (by omega) (hk1 _)|exact pblVar Vr.bare m.locals 48 (by omega) (hk1 _)|exact qkj St.bare m.body 76 (by omega) hk2) (r2:=?_);refine rnx ?_)|fail)
 rfl
theorem pbClass (c:Cs) (hz:c.sz≤1048576):qaa Tryz.prog 24 [.r (Cs.at c)] (.r (Cs.at c.bare)):=by
 have hp:=qax (f:=fun s:List UInt8=>s.length+1) (fun _=>Nat.succ_pos _) c.params
 have hf:=qax Vr.sz_pos c.fields
 have hm:=qax Me.sz_pos c.methods
 have hs:c.sz=1+c.name.length+c.super.length+qai (fun s:List UInt8=>s.length+1) c.params+c.above.length+qai Vr.sz c.fields+qai Me.sz c.methods:=rfl
 have hk1:∀k∈c.fields,qaa Tryz.prog 48 [.r (Vr.at k)] (.r (Vr.at k.bare)):=fun k _=>pbVar k
 have hk2:∀k∈c.methods,qaa Tryz.prog 50 [.r (Me.at k)] (.r (Me.at k.bare)):=fun k hk=>pbMethod k (by have:=qa5 (f:=Me.sz) hk;omega)
 refine qaa.go Tryz.func24 rfl Tryz.ntmps24 rfl rfl rfl (fun C hro=>?_)
 have fx:=trivial
 repeat' (first|refine stp [0,1,2] ?_|(refine RS.sE ?_;refine rnx ?_)|(refine stc (r1:=by first|exact pclStr c.params (by omega)|exact pclOwn c.above (by omega)|exact pblVar Vr.bare c.fields 48 (by omega) hk1|exact pblMeth Me.bare c.methods 50 (by omega) hk2) (r2:=?_);refine rnx ?_)|fail)
 rfl
theorem pBare (l:List Cs) (hz:qai Cs.sz l≤1048576):qaa Tryz.prog 9 [.a (.sl (l.map Cs.at))] (.a (.sl ((l.map Cs.bare).map Cs.at))):=by
 have hl:=qax Cs.sz_pos l
 have hk:∀k∈l,qaa Tryz.prog 24 [.r (Cs.at k)] (.r (Cs.at k.bare)):=fun k hk=>pbClass k (by have:=qa5 (f:=Cs.sz) hk;omega)
 refine qaa.go Tryz.func9 rfl Tryz.ntmps9 rfl rfl rfl (fun C hro=>?_)
 have fx:=trivial
 repeat' (first|refine stp [0,2] ?_|(refine stc (r1:=by exact pblClass Cs.bare l 24 (by omega) hk) (r2:=?_);refine rnx ?_)|fail)
 rfl
end Go.Proofs.YtfbopaaambkfkaaGreatDoor
