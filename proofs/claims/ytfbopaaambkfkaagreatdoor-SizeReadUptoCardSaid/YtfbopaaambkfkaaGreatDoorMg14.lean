/- slices.IndexFunc and ContainsFunc, on plain data. Conditions: at most 2^20 elements. -/
import Derived.Test.YtfbopaaambkfkaaGreatDoorMg9
import Derived.Test.YtfbopaaambkfkaaGreatDoorMg6
import Derived.Test.YtfbopaaambkfkaaGreatDoorMg13
set_option linter.unusedVariables false
set_option maxRecDepth 100000
set_option maxHeartbeats 8000000
set_option linter.unusedSimpArgs false
namespace Go.Proofs.YtfbopaaambkfkaaGreatDoor
open Go.RowKit
def ixOf {α:Type} (q:α→Bool):List α→Nat→Int
 | [],_=>-1
 | x::r,k=>if q x=true then (k:Int) else ixOf q r (k+1)
theorem qc6 {α:Type} (q:α→Bool):∀(l:List α) (k:Nat),decide (ixOf q l k≥0)=l.any q
 | [],_=>rfl
 | x::r,k=>by
  rw [ixOf,List.any_cons]
  cases hx:q x
  ·rw [if_neg (by simp),Bool.false_or];exact qc6 q r (k+1)
  ·rw [if_pos rfl,Bool.true_or];exact decide_eq_true (by omega)
theorem qea {α:Type} (q:α→Bool):∀(l:List α) (j k:Nat) (z:α),l[j]? = some z→(l.take j).any q=false→q z=true→ixOf q l k=((k+j:Nat):Int)
 | [],j,k,z,h,_,_=>by simp at h
 | x::r,0,k,z,h,_,hz=>by
  simp at h;subst h
  rw [ixOf,if_pos hz];rfl
 | x::r,j+1,k,z,h,hn,hz=>by
  rw [List.take_succ_cons,List.any_cons,Bool.or_eq_false_iff] at hn
  rw [ixOf,if_neg (by rw [hn.1];simp),qea q r j (k+1) z (by simpa using h) hn.2 hz]
  congr 1;omega
theorem qcm {α:Type} (q:α→Bool):∀(l:List α) (k:Nat),l.any q=false→ixOf q l k = -1
 | [],_,_=>rfl
 | x::r,k,h=>by
  rw [List.any_cons,Bool.or_eq_false_iff] at h
  rw [ixOf,if_neg (by rw [h.1];simp)];exact qcm q r (k+1) h.2
theorem qev {caps:List A} (hcl:caps.all clA=true):∀st:List Bx,(caps.map D.a).all (qfv st)=true:=fun st=>by
 rw [List.all_map];rw [List.all_eq_true] at hcl ⊢
 intro y hy;have:=hcl y hy
 cases y<;>first|rfl|(cases this)|skip
 rename_i f l;cases l with
 | nil=>rfl
 | cons=>cases this
theorem qex {caps:List A} (hcl:caps.all clA=true):∀st:List Bx,(caps.map D.a).map (qfu st)=caps.map D.a:=fun st=>by
 rw [List.map_map]
 refine List.map_congr_left fun y hy=>?_
 have:=List.all_eq_true.1 hcl y hy
 cases y<;>first|rfl|(cases this)|skip
 rename_i f l;cases l with
 | nil=>rfl
 | cons=>cases this
theorem qew {caps:List A} (hcl:caps.all clA=true):∀st:List Bx,caps.all (qfw st)=true:=fun st=>by
 rw [List.all_eq_true] at hcl ⊢
 intro y hy;have:=hcl y hy
 cases y<;>first|rfl|(cases this)|skip
 rename_i f l;cases l with
 | nil=>rfl
 | cons=>cases this
theorem qey {caps:List A} (hcl:caps.all clA=true):∀st:List Bx,caps.map (lend0 st)=caps:=fun st=>by
 conv=>rhs;rw [←List.map_id caps]
 refine List.map_congr_left fun y hy=>?_
 have:=List.all_eq_true.1 hcl y hy
 cases y<;>first|rfl|(cases this)|skip
theorem pIxClass (q:Cs→Bool) (l:List (Cs)) (fn:FuncId) (caps:List A) (hcl:caps.all clA=true) (hn:l.length≤1048576) (hf:∀k∈l,qaa Tryz.prog fn (.r (Cs.at k)::caps.map D.a) (.a (.v (.bool (q k))))):qaa Tryz.prog 37 [.a (.sl (l.map Cs.at)),.a (.fn fn caps)] (.a (.v (.int .i64 (ixOf q l 0)))):=by
 have hcd:=qev hcl
 have hld:=qex hcl
 refine qaa.go Tryz.func37 rfl Tryz.ntmps37 rfl rfl rfl (fun C hro=>?_)
 have fx:=trivial
 repeat' (first|refine stp [0,1,4,5,7,8,9,16] ?_|refine WP.cn (fun hc=>?_) (fun hc=>?_)|fail)
 refine WP.loop (α:={ k:Nat // k≤l.length∧(l.take k).any q=false }) (fun y=>[(0,.a (.sl (l.map Cs.at))),(1,.a (.fn fn caps)),(7,.a (.v (.int .i64 (l.length:Nat)))),(8,.a (.v (.int .i64 (y.1:Nat))))]) (fun _=>[]) (fun y=>l.length-y.1) ⟨0,by omega,rfl⟩ (by simp only [qal,go_sem,simprocAttr];first|done|rfl) rfl ?_
 rintro⟨k,hk,hinv⟩
 dsimp only
 by_cases hlt:k<l.length
 ·have hlt2:decide ((k:Int)<((l.length:Nat):Int))=true:=decide_eq_true (by omega)
  obtain⟨z,hz⟩:∃z,l[k]? = some z:=⟨_,List.getElem?_eq_getElem hlt⟩
  have hzm:z∈l:=lm4 hz
  have hzt:=qag hz
  have hix:∀q2,ixD (some 7) q2 (.a (.sl (l.map Cs.at))) (.a (.v (.int .i64 (k:Int))))=some (.a (.ref (Cs.at z) 0)):=fun q2=>qar rfl (by rw [List.getElem?_map,hz];rfl) (by simp only [go_sem])
  have hw:k<9223372036854775807:=by omega
  have hwu:=qa8 (k:=k) (by omega)
  replace fx:=ai12 hlt2 (ai12 hix (ai12 hwu (ai12 hcd (ai12 hld trivial))))
  repeat' (first|refine stp [0,1,4,5,7,8,9,16] ?_|(refine stc (r1:=by exact hf z hzm) (r2:=?_);refine rnx ?_)|refine WP.cn (fun hc=>?_) (fun hc=>?_)|fail)
  ·rw [qea q l k 0 z hz hinv hc,Nat.zero_add]
  ·refine⟨⟨k+1,by omega,by rw [hzt,List.any_append,hinv];simpa using hc⟩,by dsimp only;omega,?_,rfl⟩
   simp only [qal,go_sem,simprocAttr]
 obtain rfl:k=l.length:=by omega
 rw [List.take_length] at hinv
 have hlt2:decide ((l.length:Int)<(l.length:Int))=false:=decide_eq_false (by omega)
 replace fx:=ai12 hlt2 trivial
 repeat' (first|refine stp [0,1,4,5,7,8,9,16] ?_|refine WP.cn (fun hc=>?_) (fun hc=>?_)|fail)
 rw [qcm q l 0 hinv]
theorem pCfClass (q:Cs→Bool) (l:List (Cs)) (fn:FuncId) (caps:List A) (hcl:caps.all clA=true) (hn:l.length≤1048576) (hf:∀k∈l,qaa Tryz.prog fn (.r (Cs.at k)::caps.map D.a) (.a (.v (.bool (q k))))):qaa Tryz.prog 19 [.a (.sl (l.map Cs.at)),.a (.fn fn caps)] (.a (.v (.bool (l.any q)))):=by
 have hcd:=qew hcl
 have hld:=qey hcl
 refine qaa.go Tryz.func19 rfl Tryz.ntmps19 rfl rfl rfl (fun C hro=>?_)
 have fx:=trivial
 replace fx:=ai12 hcd (ai12 hld trivial)
 repeat' (first|refine stp [0,1,4] ?_|(refine stc (r1:=by exact pIxClass q l fn caps hcl hn hf) (r2:=?_);refine rnx ?_)|fail)
 exact qaf (qc6 q l 0)
theorem pIxMeth (q:Me→Bool) (l:List (Me)) (fn:FuncId) (caps:List A) (hcl:caps.all clA=true) (hn:l.length≤1048576) (hf:∀k∈l,qaa Tryz.prog fn (.r (Me.at k)::caps.map D.a) (.a (.v (.bool (q k))))):qaa Tryz.prog 71 [.a (.sl (l.map Me.at)),.a (.fn fn caps)] (.a (.v (.int .i64 (ixOf q l 0)))):=by
 have hcd:=qev hcl
 have hld:=qex hcl
 refine qaa.go Tryz.func71 rfl Tryz.ntmps71 rfl rfl rfl (fun C hro=>?_)
 have fx:=trivial
 repeat' (first|refine stp [0,1,4,5,7,8,9,16] ?_|refine WP.cn (fun hc=>?_) (fun hc=>?_)|fail)
 refine WP.loop (α:={ k:Nat // k≤l.length∧(l.take k).any q=false }) (fun y=>[(0,.a (.sl (l.map Me.at))),(1,.a (.fn fn caps)),(7,.a (.v (.int .i64 (l.length:Nat)))),(8,.a (.v (.int .i64 (y.1:Nat))))]) (fun _=>[]) (fun y=>l.length-y.1) ⟨0,by omega,rfl⟩ (by simp only [qal,go_sem,simprocAttr];first|done|rfl) rfl ?_
 rintro⟨k,hk,hinv⟩
 dsimp only
 by_cases hlt:k<l.length
 ·have hlt2:decide ((k:Int)<((l.length:Nat):Int))=true:=decide_eq_true (by omega)
  obtain⟨z,hz⟩:∃z,l[k]? = some z:=⟨_,List.getElem?_eq_getElem hlt⟩
  have hzm:z∈l:=lm4 hz
  have hzt:=qag hz
  have hix:∀q2,ixD (some 17) q2 (.a (.sl (l.map Me.at))) (.a (.v (.int .i64 (k:Int))))=some (.a (.ref (Me.at z) 0)):=fun q2=>qar rfl (by rw [List.getElem?_map,hz];rfl) (by simp only [go_sem])
  have hw:k<9223372036854775807:=by omega
  have hwu:=qa8 (k:=k) (by omega)
  replace fx:=ai12 hlt2 (ai12 hix (ai12 hwu (ai12 hcd (ai12 hld trivial))))
  repeat' (first|refine stp [0,1,4,5,7,8,9,16] ?_|(refine stc (r1:=by exact hf z hzm) (r2:=?_);refine rnx ?_)|refine WP.cn (fun hc=>?_) (fun hc=>?_)|fail)
  ·rw [qea q l k 0 z hz hinv hc,Nat.zero_add]
  ·refine⟨⟨k+1,by omega,by rw [hzt,List.any_append,hinv];simpa using hc⟩,by dsimp only;omega,?_,rfl⟩
   simp only [qal,go_sem,simprocAttr]
 obtain rfl:k=l.length:=by omega
 rw [List.take_length] at hinv
 have hlt2:decide ((l.length:Int)<(l.length:Int))=false:=decide_eq_false (by omega)
 replace fx:=ai12 hlt2 trivial
 repeat' (first|refine stp [0,1,4,5,7,8,9,16] ?_|refine WP.cn (fun hc=>?_) (fun hc=>?_)|fail)
 rw [qcm q l 0 hinv]
theorem pCfMeth (q:Me→Bool) (l:List (Me)) (fn:FuncId) (caps:List A) (hcl:caps.all clA=true) (hn:l.length≤1048576) (hf:∀k∈l,qaa Tryz.prog fn (.r (Me.at k)::caps.map D.a) (.a (.v (.bool (q k))))):qaa Tryz.prog 40 [.a (.sl (l.map Me.at)),.a (.fn fn caps)] (.a (.v (.bool (l.any q)))):=by
 have hcd:=qew hcl
 have hld:=qey hcl
 refine qaa.go Tryz.func40 rfl Tryz.ntmps40 rfl rfl rfl (fun C hro=>?_)
 have fx:=trivial
 replace fx:=ai12 hcd (ai12 hld trivial)
 repeat' (first|refine stp [0,1,4] ?_|(refine stc (r1:=by exact pIxMeth q l fn caps hcl hn hf) (r2:=?_);refine rnx ?_)|fail)
 exact qaf (qc6 q l 0)
theorem pIxVar (q:Vr→Bool) (l:List (Vr)) (fn:FuncId) (caps:List A) (hcl:caps.all clA=true) (hn:l.length≤1048576) (hf:∀k∈l,qaa Tryz.prog fn (.r (Vr.at k)::caps.map D.a) (.a (.v (.bool (q k))))):qaa Tryz.prog 93 [.a (.sl (l.map Vr.at)),.a (.fn fn caps)] (.a (.v (.int .i64 (ixOf q l 0)))):=by
 have hcd:=qev hcl
 have hld:=qex hcl
 refine qaa.go Tryz.func93 rfl Tryz.ntmps93 rfl rfl rfl (fun C hro=>?_)
 have fx:=trivial
 repeat' (first|refine stp [0,1,4,5,7,8,9,16] ?_|refine WP.cn (fun hc=>?_) (fun hc=>?_)|fail)
 refine WP.loop (α:={ k:Nat // k≤l.length∧(l.take k).any q=false }) (fun y=>[(0,.a (.sl (l.map Vr.at))),(1,.a (.fn fn caps)),(7,.a (.v (.int .i64 (l.length:Nat)))),(8,.a (.v (.int .i64 (y.1:Nat))))]) (fun _=>[]) (fun y=>l.length-y.1) ⟨0,by omega,rfl⟩ (by simp only [qal,go_sem,simprocAttr];first|done|rfl) rfl ?_
 rintro⟨k,hk,hinv⟩
 dsimp only
 by_cases hlt:k<l.length
 ·have hlt2:decide ((k:Int)<((l.length:Nat):Int))=true:=decide_eq_true (by omega)
  obtain⟨z,hz⟩:∃z,l[k]? = some z:=⟨_,List.getElem?_eq_getElem hlt⟩
  have hzm:z∈l:=lm4 hz
  have hzt:=qag hz
  have hix:∀q2,ixD (some 13) q2 (.a (.sl (l.map Vr.at))) (.a (.v (.int .i64 (k:Int))))=some (.a (.ref (Vr.at z) 0)):=fun q2=>qar rfl (by rw [List.getElem?_map,hz];rfl) (by simp only [go_sem])
  have hw:k<9223372036854775807:=by omega
  have hwu:=qa8 (k:=k) (by omega)
  replace fx:=ai12 hlt2 (ai12 hix (ai12 hwu (ai12 hcd (ai12 hld trivial))))
  repeat' (first|refine stp [0,1,4,5,7,8,9,16] ?_|(refine stc (r1:=by exact hf z hzm) (r2:=?_);refine rnx ?_)|refine WP.cn (fun hc=>?_) (fun hc=>?_)|fail)
  ·rw [qea q l k 0 z hz hinv hc,Nat.zero_add]
  ·refine⟨⟨k+1,by omega,by rw [hzt,List.any_append,hinv];simpa using hc⟩,by dsimp only;omega,?_,rfl⟩
   simp only [qal,go_sem,simprocAttr]
 obtain rfl:k=l.length:=by omega
 rw [List.take_length] at hinv
 have hlt2:decide ((l.length:Int)<(l.length:Int))=false:=decide_eq_false (by omega)
 replace fx:=ai12 hlt2 trivial
 repeat' (first|refine stp [0,1,4,5,7,8,9,16] ?_|refine WP.cn (fun hc=>?_) (fun hc=>?_)|fail)
 rw [qcm q l 0 hinv]
theorem pCfVar (q:Vr→Bool) (l:List (Vr)) (fn:FuncId) (caps:List A) (hcl:caps.all clA=true) (hn:l.length≤1048576) (hf:∀k∈l,qaa Tryz.prog fn (.r (Vr.at k)::caps.map D.a) (.a (.v (.bool (q k))))):qaa Tryz.prog 68 [.a (.sl (l.map Vr.at)),.a (.fn fn caps)] (.a (.v (.bool (l.any q)))):=by
 have hcd:=qew hcl
 have hld:=qey hcl
 refine qaa.go Tryz.func68 rfl Tryz.ntmps68 rfl rfl rfl (fun C hro=>?_)
 have fx:=trivial
 replace fx:=ai12 hcd (ai12 hld trivial)
 repeat' (first|refine stp [0,1,4] ?_|(refine stc (r1:=by exact pIxVar q l fn caps hcl hn hf) (r2:=?_);refine rnx ?_)|fail)
 exact qaf (qc6 q l 0)
theorem pIxStmt (q:St→Bool) (l:List (St)) (fn:FuncId) (caps:List A) (hcl:caps.all clA=true) (hn:l.length≤1048576) (hf:∀k∈l,qaa Tryz.prog fn (.r (St.at k)::caps.map D.a) (.a (.v (.bool (q k))))):qaa Tryz.prog 139 [.a (.sl (l.map St.at)),.a (.fn fn caps)] (.a (.v (.int .i64 (ixOf q l 0)))):=by
 have hcd:=qev hcl
 have hld:=qex hcl
 refine qaa.go Tryz.func139 rfl Tryz.ntmps139 rfl rfl rfl (fun C hro=>?_)
 have fx:=trivial
 repeat' (first|refine stp [0,1,4,5,7,8,9,16] ?_|refine WP.cn (fun hc=>?_) (fun hc=>?_)|fail)
 refine WP.loop (α:={ k:Nat // k≤l.length∧(l.take k).any q=false }) (fun y=>[(0,.a (.sl (l.map St.at))),(1,.a (.fn fn caps)),(7,.a (.v (.int .i64 (l.length:Nat)))),(8,.a (.v (.int .i64 (y.1:Nat))))]) (fun _=>[]) (fun y=>l.length-y.1) ⟨0,by omega,rfl⟩ (by simp only [qal,go_sem,simprocAttr];first|done|rfl) rfl ?_
 rintro⟨k,hk,hinv⟩
 dsimp only
 by_cases hlt:k<l.length
 ·have hlt2:decide ((k:Int)<((l.length:Nat):Int))=true:=decide_eq_true (by omega)
  obtain⟨z,hz⟩:∃z,l[k]? = some z:=⟨_,List.getElem?_eq_getElem hlt⟩
  have hzm:z∈l:=lm4 hz
  have hzt:=qag hz
  have hix:∀q2,ixD (some 23) q2 (.a (.sl (l.map St.at))) (.a (.v (.int .i64 (k:Int))))=some (.a (.ref (St.at z) 0)):=fun q2=>qar rfl (by rw [List.getElem?_map,hz];rfl) (by simp only [go_sem])
  have hw:k<9223372036854775807:=by omega
  have hwu:=qa8 (k:=k) (by omega)
  replace fx:=ai12 hlt2 (ai12 hix (ai12 hwu (ai12 hcd (ai12 hld trivial))))
  repeat' (first|refine stp [0,1,4,5,7,8,9,16] ?_|(refine stc (r1:=by exact hf z hzm) (r2:=?_);refine rnx ?_)|refine WP.cn (fun hc=>?_) (fun hc=>?_)|fail)
  ·rw [qea q l k 0 z hz hinv hc,Nat.zero_add]
  ·refine⟨⟨k+1,by omega,by rw [hzt,List.any_append,hinv];simpa using hc⟩,by dsimp only;omega,?_,rfl⟩
   simp only [qal,go_sem,simprocAttr]
 obtain rfl:k=l.length:=by omega
 rw [List.take_length] at hinv
 have hlt2:decide ((l.length:Int)<(l.length:Int))=false:=decide_eq_false (by omega)
 replace fx:=ai12 hlt2 trivial
 repeat' (first|refine stp [0,1,4,5,7,8,9,16] ?_|refine WP.cn (fun hc=>?_) (fun hc=>?_)|fail)
 rw [qcm q l 0 hinv]
theorem pCfStmt (q:St→Bool) (l:List (St)) (fn:FuncId) (caps:List A) (hcl:caps.all clA=true) (hn:l.length≤1048576) (hf:∀k∈l,qaa Tryz.prog fn (.r (St.at k)::caps.map D.a) (.a (.v (.bool (q k))))):qaa Tryz.prog 129 [.a (.sl (l.map St.at)),.a (.fn fn caps)] (.a (.v (.bool (l.any q)))):=by
 have hcd:=qew hcl
 have hld:=qey hcl
 refine qaa.go Tryz.func129 rfl Tryz.ntmps129 rfl rfl rfl (fun C hro=>?_)
 have fx:=trivial
 replace fx:=ai12 hcd (ai12 hld trivial)
 repeat' (first|refine stp [0,1,4] ?_|(refine stc (r1:=by exact pIxStmt q l fn caps hcl hn hf) (r2:=?_);refine rnx ?_)|fail)
 exact qaf (qc6 q l 0)
theorem pIxExpr (q:Ex→Bool) (l:List (Ex)) (fn:FuncId) (caps:List A) (hcl:caps.all clA=true) (hn:l.length≤1048576) (hf:∀k∈l,qaa Tryz.prog fn (.r (Ex.at k)::caps.map D.a) (.a (.v (.bool (q k))))):qaa Tryz.prog 147 [.a (.sl (l.map Ex.at)),.a (.fn fn caps)] (.a (.v (.int .i64 (ixOf q l 0)))):=by
 have hcd:=qev hcl
 have hld:=qex hcl
 refine qaa.go Tryz.func147 rfl Tryz.ntmps147 rfl rfl rfl (fun C hro=>?_)
 have fx:=trivial
 repeat' (first|refine stp [0,1,4,5,7,8,9,16] ?_|refine WP.cn (fun hc=>?_) (fun hc=>?_)|fail)
 refine WP.loop (α:={ k:Nat // k≤l.length∧(l.take k).any q=false }) (fun y=>[(0,.a (.sl (l.map Ex.at))),(1,.a (.fn fn caps)),(7,.a (.v (.int .i64 (l.length:Nat)))),(8,.a (.v (.int .i64 (y.1:Nat))))]) (fun _=>[]) (fun y=>l.length-y.1) ⟨0,by omega,rfl⟩ (by simp only [qal,go_sem,simprocAttr];first|done|rfl) rfl ?_
 rintro⟨k,hk,hinv⟩
 dsimp only
 by_cases hlt:k<l.length
 ·have hlt2:decide ((k:Int)<((l.length:Nat):Int))=true:=decide_eq_true (by omega)
  obtain⟨z,hz⟩:∃z,l[k]? = some z:=⟨_,List.getElem?_eq_getElem hlt⟩
  have hzm:z∈l:=lm4 hz
  have hzt:=qag hz
  have hix:∀q2,ixD (some 4) q2 (.a (.sl (l.map Ex.at))) (.a (.v (.int .i64 (k:Int))))=some (.a (.ref (Ex.at z) 0)):=fun q2=>qar rfl (by rw [List.getElem?_map,hz];rfl) (by simp only [go_sem])
  have hw:k<9223372036854775807:=by omega
  have hwu:=qa8 (k:=k) (by omega)
  replace fx:=ai12 hlt2 (ai12 hix (ai12 hwu (ai12 hcd (ai12 hld trivial))))
  repeat' (first|refine stp [0,1,4,5,7,8,9,16] ?_|(refine stc (r1:=by exact hf z hzm) (r2:=?_);refine rnx ?_)|refine WP.cn (fun hc=>?_) (fun hc=>?_)|fail)
  ·rw [qea q l k 0 z hz hinv hc,Nat.zero_add]
  ·refine⟨⟨k+1,by omega,by rw [hzt,List.any_append,hinv];simpa using hc⟩,by dsimp only;omega,?_,rfl⟩
   simp only [qal,go_sem,simprocAttr]
 obtain rfl:k=l.length:=by omega
 rw [List.take_length] at hinv
 have hlt2:decide ((l.length:Int)<(l.length:Int))=false:=decide_eq_false (by omega)
 replace fx:=ai12 hlt2 trivial
 repeat' (first|refine stp [0,1,4,5,7,8,9,16] ?_|refine WP.cn (fun hc=>?_) (fun hc=>?_)|fail)
 rw [qcm q l 0 hinv]
theorem qkn (q:Ex→Bool) (l:List (Ex)) (fn:FuncId) (caps:List A) (hcl:caps.all clA=true) (hn:l.length≤1048576) (hf:∀k∈l,qaa Tryz.prog fn (.r (Ex.at k)::caps.map D.a) (.a (.v (.bool (q k))))):qaa Tryz.prog 137 [.a (.sl (l.map Ex.at)),.a (.fn fn caps)] (.a (.v (.bool (l.any q)))):=by
 have hcd:=qew hcl
 have hld:=qey hcl
 refine qaa.go Tryz.func137 rfl Tryz.ntmps137 rfl rfl rfl (fun C hro=>?_)
 have fx:=trivial
 replace fx:=ai12 hcd (ai12 hld trivial)
 repeat' (first|refine stp [0,1,4] ?_|(refine stc (r1:=by exact pIxExpr q l fn caps hcl hn hf) (r2:=?_);refine rnx ?_)|fail)
 exact qaf (qc6 q l 0)
theorem pIxStr (q:List UInt8→Bool) (l:List (List UInt8)) (fn:FuncId) (caps:List A) (hcl:caps.all clA=true) (hn:l.length≤1048576) (hf:∀k∈l,qaa Tryz.prog fn (.a (.v (.string (bs k)))::caps.map D.a) (.a (.v (.bool (q k))))):qaa Tryz.prog 92 [.a (.sl (l.map qaj)),.a (.fn fn caps)] (.a (.v (.int .i64 (ixOf q l 0)))):=by
 have hcd:=qev hcl
 have hld:=qex hcl
 refine qaa.go Tryz.func92 rfl Tryz.ntmps92 rfl rfl rfl (fun C hro=>?_)
 have fx:=trivial
 repeat' (first|refine stp [0,1,4,5,7,8,9,16] ?_|refine WP.cn (fun hc=>?_) (fun hc=>?_)|fail)
 refine WP.loop (α:={ k:Nat // k≤l.length∧(l.take k).any q=false }) (fun y=>[(0,.a (.sl (l.map qaj))),(1,.a (.fn fn caps)),(7,.a (.v (.int .i64 (l.length:Nat)))),(8,.a (.v (.int .i64 (y.1:Nat))))]) (fun _=>[]) (fun y=>l.length-y.1) ⟨0,by omega,rfl⟩ (by simp only [qal,go_sem,simprocAttr];first|done|rfl) rfl ?_
 rintro⟨k,hk,hinv⟩
 dsimp only
 by_cases hlt:k<l.length
 ·have hlt2:decide ((k:Int)<((l.length:Nat):Int))=true:=decide_eq_true (by omega)
  obtain⟨z,hz⟩:∃z,l[k]? = some z:=⟨_,List.getElem?_eq_getElem hlt⟩
  have hzm:z∈l:=lm4 hz
  have hzt:=qag hz
  have hix:∀q2,ixD (some 1) q2 (.a (.sl (l.map qaj))) (.a (.v (.int .i64 (k:Int))))=some (.a (.ref (qaj z) 0)):=fun q2=>qar rfl (by rw [List.getElem?_map,hz];rfl) (by simp only [go_sem])
  have hw:k<9223372036854775807:=by omega
  have hwu:=qa8 (k:=k) (by omega)
  replace fx:=ai12 hlt2 (ai12 hix (ai12 hwu (ai12 hcd (ai12 hld trivial))))
  repeat' (first|refine stp [0,1,4,5,7,8,9,16] ?_|(refine stc (r1:=by exact hf z hzm) (r2:=?_);refine rnx ?_)|refine WP.cn (fun hc=>?_) (fun hc=>?_)|fail)
  ·rw [qea q l k 0 z hz hinv hc,Nat.zero_add]
  ·refine⟨⟨k+1,by omega,by rw [hzt,List.any_append,hinv];simpa using hc⟩,by dsimp only;omega,?_,rfl⟩
   simp only [qal,go_sem,simprocAttr]
 obtain rfl:k=l.length:=by omega
 rw [List.take_length] at hinv
 have hlt2:decide ((l.length:Int)<(l.length:Int))=false:=decide_eq_false (by omega)
 replace fx:=ai12 hlt2 trivial
 repeat' (first|refine stp [0,1,4,5,7,8,9,16] ?_|refine WP.cn (fun hc=>?_) (fun hc=>?_)|fail)
 rw [qcm q l 0 hinv]
theorem pCfStr (q:List UInt8→Bool) (l:List (List UInt8)) (fn:FuncId) (caps:List A) (hcl:caps.all clA=true) (hn:l.length≤1048576) (hf:∀k∈l,qaa Tryz.prog fn (.a (.v (.string (bs k)))::caps.map D.a) (.a (.v (.bool (q k))))):qaa Tryz.prog 65 [.a (.sl (l.map qaj)),.a (.fn fn caps)] (.a (.v (.bool (l.any q)))):=by
 have hcd:=qew hcl
 have hld:=qey hcl
 refine qaa.go Tryz.func65 rfl Tryz.ntmps65 rfl rfl rfl (fun C hro=>?_)
 have fx:=trivial
 replace fx:=ai12 hcd (ai12 hld trivial)
 repeat' (first|refine stp [0,1,4] ?_|(refine stc (r1:=by exact pIxStr q l fn caps hcl hn hf) (r2:=?_);refine rnx ?_)|fail)
 exact qaf (qc6 q l 0)
theorem pIxOwner (q:Int×Int→Bool) (l:List (Int×Int)) (fn:FuncId) (caps:List A) (hcl:caps.all clA=true) (hn:l.length≤1048576) (hf:∀k∈l,qaa Tryz.prog fn (.r (owAt k)::caps.map D.a) (.a (.v (.bool (q k))))):qaa Tryz.prog 116 [.a (.sl (l.map owAt)),.a (.fn fn caps)] (.a (.v (.int .i64 (ixOf q l 0)))):=by
 have hcd:=qev hcl
 have hld:=qex hcl
 refine qaa.go Tryz.func116 rfl Tryz.ntmps116 rfl rfl rfl (fun C hro=>?_)
 have fx:=trivial
 repeat' (first|refine stp [0,1,4,5,7,8,9,16] ?_|refine WP.cn (fun hc=>?_) (fun hc=>?_)|fail)
 refine WP.loop (α:={ k:Nat // k≤l.length∧(l.take k).any q=false }) (fun y=>[(0,.a (.sl (l.map owAt))),(1,.a (.fn fn caps)),(7,.a (.v (.int .i64 (l.length:Nat)))),(8,.a (.v (.int .i64 (y.1:Nat))))]) (fun _=>[]) (fun y=>l.length-y.1) ⟨0,by omega,rfl⟩ (by simp only [qal,go_sem,simprocAttr];first|done|rfl) rfl ?_
 rintro⟨k,hk,hinv⟩
 dsimp only
 by_cases hlt:k<l.length
 ·have hlt2:decide ((k:Int)<((l.length:Nat):Int))=true:=decide_eq_true (by omega)
  obtain⟨z,hz⟩:∃z,l[k]? = some z:=⟨_,List.getElem?_eq_getElem hlt⟩
  have hzm:z∈l:=lm4 hz
  have hzt:=qag hz
  have hix:∀q2,ixD (some 2) q2 (.a (.sl (l.map owAt))) (.a (.v (.int .i64 (k:Int))))=some (.a (.ref (owAt z) 0)):=fun q2=>qar rfl (by rw [List.getElem?_map,hz];rfl) (by simp only [go_sem])
  have hw:k<9223372036854775807:=by omega
  have hwu:=qa8 (k:=k) (by omega)
  replace fx:=ai12 hlt2 (ai12 hix (ai12 hwu (ai12 hcd (ai12 hld trivial))))
  repeat' (first|refine stp [0,1,4,5,7,8,9,16] ?_|(refine stc (r1:=by exact hf z hzm) (r2:=?_);refine rnx ?_)|refine WP.cn (fun hc=>?_) (fun hc=>?_)|fail)
  ·rw [qea q l k 0 z hz hinv hc,Nat.zero_add]
  ·refine⟨⟨k+1,by omega,by rw [hzt,List.any_append,hinv];simpa using hc⟩,by dsimp only;omega,?_,rfl⟩
   simp only [qal,go_sem,simprocAttr]
 obtain rfl:k=l.length:=by omega
 rw [List.take_length] at hinv
 have hlt2:decide ((l.length:Int)<(l.length:Int))=false:=decide_eq_false (by omega)
 replace fx:=ai12 hlt2 trivial
 repeat' (first|refine stp [0,1,4,5,7,8,9,16] ?_|refine WP.cn (fun hc=>?_) (fun hc=>?_)|fail)
 rw [qcm q l 0 hinv]
theorem qlw (q:Int×Int→Bool) (l:List (Int×Int)) (fn:FuncId) (caps:List A) (hcl:caps.all clA=true) (hn:l.length≤1048576) (hf:∀k∈l,qaa Tryz.prog fn (.r (owAt k)::caps.map D.a) (.a (.v (.bool (q k))))):qaa Tryz.prog 94 [.a (.sl (l.map owAt)),.a (.fn fn caps)] (.a (.v (.bool (l.any q)))):=by
 have hcd:=qew hcl
 have hld:=qey hcl
 refine qaa.go Tryz.func94 rfl Tryz.ntmps94 rfl rfl rfl (fun C hro=>?_)
 have fx:=trivial
 replace fx:=ai12 hcd (ai12 hld trivial)
 repeat' (first|refine stp [0,1,4] ?_|(refine stc (r1:=by exact pIxOwner q l fn caps hcl hn hf) (r2:=?_);refine rnx ?_)|fail)
 exact qaf (qc6 q l 0)
theorem qcq (t:List UInt8) (h:t.length≤1000000000):qaa Tryz.prog 64 [.a (.v (.string (bs t)))] (.a (.v (.bool (qan t)))):=by
 have:=qaa.scal (P:=Tryz.prog) (f:=64) (xs:=[.string (bs t)]) (z:=.bool (qan t)) (qbp Tryz.func64 rfl rfl) rfl fun w hw=>by
  have:=wName_any w (bs t) h (hw w (Nat.le_refl _) fun _ _=>rfl).wd
  rw [qk5] at this
  exact this
 exact this
theorem psNone (e:Ex) (hz:e.sz≤1048576):qaa Tryz.prog 135 [.r (Ex.at e)] (.a (.v (.bool (e.sameB Ex.zero)))):=by
 refine qaa.go Tryz.func135 rfl Tryz.ntmps135 rfl rfl rfl (fun C hro=>?_)
 have fx:=trivial
 repeat' (first|refine stp [0,1,2] ?_|(refine stc (r1:=by exact qjk _ e Ex.zero (Nat.le_refl _) hz) (r2:=?_);refine rnx ?_)|fail)
 rfl
theorem deep_kids (e:Ex) (left:Int) (h:0<left):(!e.kids.any fun k=>!decide ((k.deep:Int)≤left-1))=decide ((e.deep:Int)≤left):=by
 have hd:=e.deep_eq
 have up:∀l:List Ex,(∀x∈l,(x.deep:Int)≤left-1)→(Ex.deeps l:Int)≤left-1:=by
  intro l
  induction l with
  | nil=>intro _;rw [Ex.deeps];omega
  | cons x r ih=>intro hx;rw [Ex.deeps];have:=hx x (by simp);have:=ih fun y hy=>hx y (by simp [hy]);omega
 have dn:∀(l:List Ex) (x:Ex),x∈l→x.deep≤Ex.deeps l:=by
  intro l x
  induction l with
  | nil=>intro h;simp at h
  | cons y r ih =>
   intro h;rw [Ex.deeps]
   rcases List.mem_cons.1 h with rfl|h
   ·omega
   ·have:=ih h;omega
 by_cases hk:(e.deep:Int)≤left
 ·rw [decide_eq_true hk,Bool.not_eq_true',List.any_eq_false]
  intro x hx
  have:=dn _ _ hx
  rw [decide_eq_true (by omega)];simp
 ·rw [decide_eq_false hk,Bool.not_eq_false',List.any_eq_true]
  apply Classical.byContradiction
  intro hn
  refine hk ?_
  have:=up e.kids fun x hx=>Classical.byContradiction fun hx2=>hn ⟨x,hx,by rw [decide_eq_false hx2];rfl⟩
  omega
@[go_sem] theorem clA_val (x:Value):clA (.v x)=true:=rfl
@[go_sem] theorem ldRow_one (y:A):qap none [y] 0=some (.a y):=rfl
theorem peDeep:∀(m:Nat) (e:Ex) (left:Int),e.sz≤m→e.sz≤1048576→0≤left→left≤1048576→qaa Tryz.prog 144 [.r (Ex.at e),.a (.v (.int .i64 left))] (.a (.v (.bool (decide ((e.deep:Int)≤left)))))
 | 0,e,_,h,_,_,_=>by have:=e.sz_pos;omega
 | m+1,e,left,h,hz0,h0,h1=>by
  have hlen:e.kids.length≤1048576:=by have:=Ex.szs_len e.kids;have:=e.sz_eq;omega
  have hd:=e.deep_eq
  by_cases hl:left=0
  ·subst hl
   refine qaa.go Tryz.func144 rfl Tryz.ntmps144 rfl rfl rfl (fun C hro=>?_)
   have fx:=trivial
   repeat' (first|refine WP.seq ?_|(refine WP.reg [0,1,2,3,4,6] (by kernel_rfl) (by kernel_rfl) ?_;refine RS.run2 (by simp only [go_sem,simprocAttr,qab,beq_self_eq_true];first|done|rfl) ?_;simp only [qao])|(first|refine RS.finT (by simp only [go_sem,simprocAttr];first|done|rfl) ?_|refine RS.fin (by simp only [go_sem,simprocAttr];first|done|rfl) ?_;(try simp only [qab,qae]))|(refine RS.callL (by simp only [go_sem,simprocAttr,qab,beq_self_eq_true];first|done|rfl) (by simp only [go_sem,simprocAttr,List.all_cons,List.all_nil,Bool.and_true,qab,beq_self_eq_true]) (by fail) ?_;refine RS.run2 (by simp only [go_sem,simprocAttr,qab,beq_self_eq_true];first|done|rfl) ?_;simp only [qao])|(refine RS.callvL (by simp only [go_sem,simprocAttr,qab,beq_self_eq_true];first|done|rfl) (by simp only [go_sem,simprocAttr,qab,beq_self_eq_true];first|done|rfl) (by simp only [go_sem,simprocAttr,List.all_cons,List.all_nil,Bool.and_true,qab,beq_self_eq_true]) (by fail) ?_;refine RS.run2 (by simp only [go_sem,simprocAttr,qab,beq_self_eq_true];first|done|rfl) ?_;simp only [qao])|((refine WP.cond rfl (by simp only [go_sem,simprocAttr,qab,beq_self_eq_true];first|done|rfl) (fun hc=>?_) (fun hc=>?_))<;>try exact Bool.noConfusion hc)|(refine WP.skip ?_;(try simp only [qab,qae]))|(refine WP.exit ?_;(try simp only [qb8,qbj,qbi,ne_eq,Nat.reduceEqDiff,not_false_eq_true,reduceCtorEq,qab,qae]))|refine WP.block ?_|(refine WP.ret ?_;(try simp only [qa1,qaz]);refine ret1 rfl (by simp only [go_sem,simprocAttr,qab,beq_self_eq_true];first|done|rfl) (by simp only [go_sem,qab,beq_self_eq_true]) ?_)|(fail;simp only [List.take_succ_cons,List.take_zero,List.drop_succ_cons,List.drop_zero,List.take_nil,List.drop_nil];refine RQ.run2 (by simp only [go_sem,simprocAttr,qab,beq_self_eq_true];first|done|rfl) ?_;simp only [qat])|(refine RQ.nil ?_;refine RS.run2 (by simp only [go_sem,simprocAttr,qab,beq_self_eq_true];first|done|rfl) ?_;simp only [qao])|(refine RQ.callL (by simp only [go_sem,simprocAttr,qab,beq_self_eq_true];first|done|rfl) (by simp only [go_sem,simprocAttr,List.all_cons,List.all_nil,Bool.and_true,qab,beq_self_eq_true]) (by fail) ?_;refine RQ.run2 (by simp only [go_sem,simprocAttr,qab,beq_self_eq_true];first|done|rfl) ?_;simp only [qat])|(refine RQ.callvL (by simp only [go_sem,simprocAttr,qab,beq_self_eq_true];first|done|rfl) (by simp only [go_sem,simprocAttr,qab,beq_self_eq_true];first|done|rfl) (by simp only [go_sem,simprocAttr,List.all_cons,List.all_nil,Bool.and_true,qab,beq_self_eq_true]) (by fail) ?_;refine RQ.run2 (by simp only [go_sem,simprocAttr,qab,beq_self_eq_true];first|done|rfl) ?_;simp only [qat]))
   refine qaf ?_
   rw [eq_comm,decide_eq_false_iff_not];omega
  ·have hlb:(left==0)=false:=by simpa using hl
   have hwl:IntKind.i64.wrap (left-1)=left-1:=qah (by omega) (by omega)
   have IH:∀k∈e.kids,qaa Tryz.prog 144 [.r (Ex.at k),.a (.v (.int .i64 (left-1)))] (.a (.v (.bool (decide ((k.deep:Int)≤left-1))))):=fun k hk=>peDeep m k _ (by have:=Ex.kid_lt hk;omega) (by have:=Ex.kid_lt hk;omega) (by omega) (by omega)
   have I1:∀k∈e.kids,qaa Tryz.prog 148 [.r (Ex.at k),.a (.ref [.v (.int .i64 left)] 0)] (.a (.v (.bool (!decide ((k.deep:Int)≤left-1))))):=fun k hk=>by
    have:=IH k hk
    refine qaa.go Tryz.func148 rfl Tryz.ntmps148 rfl rfl rfl (fun C hro=>?_)
    have fx:=trivial
    replace fx:=ai12 hwl trivial
    repeat' (first|refine stp [0,1,2,3] ?_|(refine stc (r1:=by exact this) (r2:=?_);refine rnx ?_)|fail)
    rfl
   refine qaa.go Tryz.func144 rfl Tryz.ntmps144 rfl rfl rfl (fun C hro=>?_)
   have fx:=trivial
   replace fx:=ai12 hlb trivial
   repeat' (first|refine stp [0,1,2,3,4,6] ?_|(refine stc (r1:=by exact qkn (fun k=>!decide ((k.deep:Int)≤left-1)) e.kids 148 [.ref [.v (.int .i64 left)] 0] rfl hlen I1) (r2:=?_);refine rnx ?_)|refine WP.cn (fun hc=>?_) (fun hc=>?_)|fail)
   exact qaf (deep_kids e left (by omega))
def qkw (k:Int):Int:=if k=1∨k=2∨k=3∨k=4∨k=5 then 0 else if k=12∨k=13 then 1 else if k=6∨k=7∨k=8∨k=9∨k=10∨k=11∨k=14 then 2 else -1
theorem peKids (k:Int):qaa Tryz.prog 151 [.a (.v (.int .i64 k))] (.a (.v (.int .i64 (qkw k)))):=by
 by_cases hin:1≤k∧k≤14
 ·have:k=1∨k=2∨k=3∨k=4∨k=5∨k=6∨k=7∨k=8∨k=9∨k=10∨k=11∨k=12∨k=13∨k=14:=by omega
  clear hin
  rcases this with rfl|rfl|rfl|rfl|rfl|rfl|rfl|rfl|rfl|rfl|rfl|rfl|rfl|rfl
  all_goals
   refine qaa.go Tryz.func151 rfl Tryz.ntmps151 rfl rfl rfl (fun C hro=>?_)
   have fx:=trivial
   repeat' (first|refine stp [0,2,3,4,10,13] ?_|refine WP.cn (fun hc=>?_) (fun hc=>?_)|fail)
   rfl
 ·have h1:=beqF (show k≠1 by omega)
  have h2:=beqF (show k≠2 by omega)
  have h3:=beqF (show k≠3 by omega)
  have h4:=beqF (show k≠4 by omega)
  have h5:=beqF (show k≠5 by omega)
  have h6:=beqF (show k≠6 by omega)
  have h7:=beqF (show k≠7 by omega)
  have h8:=beqF (show k≠8 by omega)
  have h9:=beqF (show k≠9 by omega)
  have h10:=beqF (show k≠10 by omega)
  have h11:=beqF (show k≠11 by omega)
  have h12:=beqF (show k≠12 by omega)
  have h13:=beqF (show k≠13 by omega)
  have h14:=beqF (show k≠14 by omega)
  refine qaa.go Tryz.func151 rfl Tryz.ntmps151 rfl rfl rfl (fun C hro=>?_)
  have fx:=trivial
  replace fx:=ai12 h1 (ai12 h2 (ai12 h3 (ai12 h4 (ai12 h5 (ai12 h6 (ai12 h7 (ai12 h8 (ai12 h9 (ai12 h10 (ai12 h11 (ai12 h12 (ai12 h13 (ai12 h14 trivial)))))))))))))
  repeat' (first|refine stp [0,2,3,4,10,13] ?_|refine WP.cn (fun hc=>?_) (fun hc=>?_)|fail)
  refine ql9 ?_
  unfold qkw
  rw [if_neg (by omega),if_neg (by omega),if_neg (by omega)]
end Go.Proofs.YtfbopaaambkfkaaGreatDoor
