/- slices.IndexFunc and ContainsFunc, on plain data. Conditions: at most 2^20 elements. -/
import Derived.Test.YthkojpnjdpbcgaaGreatDoorMl14
import Derived.Test.YthkojpnjdpbcgaaGreatDoorMl6
set_option linter.unusedVariables false
set_option maxRecDepth 100000
set_option maxHeartbeats 8000000
set_option linter.unusedSimpArgs false
namespace Go.Proofs.YthkojpnjdpbcgaaGreatDoor
theorem ai15 {a b : Prop} (x : a) (y : b) : a ∧ b := ⟨x, y⟩
open Go.RowKit
def ixOf {α:Type} (q:α→Bool):List α→Nat→Int
 | [],_=>-1
 | x::r,k=>if q x=true then (k:Int) else ixOf q r (k+1)
theorem qgh {α:Type} (q:α→Bool):∀(l:List α) (k:Nat),decide (ixOf q l k≥0)=l.any q
 | [],_=>rfl
 | x::r,k=>by
  rw [ixOf,List.any_cons]
  cases hx:q x
  ·rw [if_neg (by simp),Bool.false_or];exact qgh q r (k+1)
  ·rw [if_pos rfl,Bool.true_or];exact decide_eq_true (by omega)
theorem qd5 {α:Type} (q:α→Bool):∀(l:List α) (j k:Nat) (z:α),l[j]? = some z→(l.take j).any q=false→q z=true→ixOf q l k=((k+j:Nat):Int)
 | [],j,k,z,h,_,_=>by simp at h
 | x::r,0,k,z,h,_,hz=>by
  simp at h;subst h
  rw [ixOf,if_pos hz];rfl
 | x::r,j+1,k,z,h,hn,hz=>by
  rw [List.take_succ_cons,List.any_cons,Bool.or_eq_false_iff] at hn
  rw [ixOf,if_neg (by rw [hn.1];simp),qd5 q r j (k+1) z (by simpa using h) hn.2 hz]
  congr 1;omega
theorem qb8 {α:Type} (q:α→Bool):∀(l:List α) (k:Nat),l.any q=false→ixOf q l k = -1
 | [],_,_=>rfl
 | x::r,k,h=>by
  rw [List.any_cons,Bool.or_eq_false_iff] at h
  rw [ixOf,if_neg (by rw [h.1];simp)];exact qb8 q r (k+1) h.2
theorem qhp {caps:List A} (hcl:caps.all clA=true):∀st:List Bx,(caps.map D.a).all (qf8 st)=true:=fun st=>by
 rw [List.all_map];rw [List.all_eq_true] at hcl ⊢
 intro y hy;have:=hcl y hy
 cases y<;>first|rfl|(cases this)|skip
 rename_i f l;cases l with
 | nil=>rfl
 | cons=>cases this
theorem qhq {caps:List A} (hcl:caps.all clA=true):∀st:List Bx,(caps.map D.a).map (qf7 st)=caps.map D.a:=fun st=>by
 rw [List.map_map]
 refine List.map_congr_left fun y hy=>?_
 have:=List.all_eq_true.1 hcl y hy
 cases y<;>first|rfl|(cases this)|skip
 rename_i f l;cases l with
 | nil=>rfl
 | cons=>cases this
theorem cap_ok0 {caps:List A} (hcl:caps.all clA=true):∀st:List Bx,caps.all (qhy st)=true:=fun st=>by
 rw [List.all_eq_true] at hcl ⊢
 intro y hy;have:=hcl y hy
 cases y<;>first|rfl|(cases this)|skip
 rename_i f l;cases l with
 | nil=>rfl
 | cons=>cases this
theorem cap_ld0 {caps:List A} (hcl:caps.all clA=true):∀st:List Bx,caps.map (lend0 st)=caps:=fun st=>by
 conv=>rhs;rw [←List.map_id caps]
 refine List.map_congr_left fun y hy=>?_
 have:=List.all_eq_true.1 hcl y hy
 cases y<;>first|rfl|(cases this)|skip
theorem pIxClass (q:Cs→Bool) (l:List (Cs)) (fn:FuncId) (caps:List A) (hcl:caps.all clA=true) (hn:l.length≤1048576) (hf:∀k∈l,qaa Tryz.prog fn (.r (Cs.at k)::caps.map D.a) (.a (.v (.bool (q k))))):qaa Tryz.prog 186 [.a (.sl (l.map Cs.at)),.a (.fn fn caps)] (.a (.v (.int .i64 (ixOf q l 0)))):=by
 have hcd:=qhp hcl
 have hld:=qhq hcl
 refine qaa.go Tryz.func186 rfl Tryz.ntmps186 rfl rfl rfl (fun C hro=>?_)
 have fx:=trivial
 repeat' (first|refine stp [0,1,4,5,7,8,9,16] ?_|fail)
 refine WP.loop (α:={ k:Nat // k≤l.length∧(l.take k).any q=false }) (fun y=>[(0,.a (.sl (l.map Cs.at))),(1,.a (.fn fn caps)),(7,.a (.v (.int .i64 (l.length:Nat)))),(8,.a (.v (.int .i64 (y.1:Nat))))]) (fun _=>[]) (fun y=>l.length-y.1) ⟨0,by omega,rfl⟩ (by simp only [qal,go_sem,simprocAttr];first|done|rfl) rfl ?_
 rintro⟨k,hk,hinv⟩
 dsimp only
 by_cases hlt:k<l.length
 ·have hlt2:decide ((k:Int)<((l.length:Nat):Int))=true:=decide_eq_true (by omega)
  obtain⟨z,hz⟩:∃z,l[k]? = some z:=⟨_,List.getElem?_eq_getElem hlt⟩
  have hzm:z∈l:=lm4 hz
  have hzt:=qao hz
  have hix:∀q2,ixD (some 7) q2 (.a (.sl (l.map Cs.at))) (.a (.v (.int .i64 (k:Int))))=some (.a (.ref (Cs.at z) 0)):=fun q2=>qaq rfl (by rw [List.getElem?_map,hz];rfl) (by simp only [go_sem])
  have hw:k<9223372036854775807:=by omega
  have hwu:=qap (k:=k) (by omega)
  replace fx:=ai15 hlt2 (ai15 hix (ai15 hwu (ai15 hcd (ai15 hld trivial))))
  repeat' (first|refine stp [0,1,4,5,7,8,9,16] ?_|(refine stc (r1:=by exact hf z hzm) (r2:=?_);refine rnx ?_)|refine WP.cn (fun hc=>?_) (fun hc=>?_)|fail)
  ·rw [qd5 q l k 0 z hz hinv hc,Nat.zero_add]
  ·refine⟨⟨k+1,by omega,by rw [hzt,List.any_append,hinv];simpa using hc⟩,by dsimp only;omega,?_,rfl⟩
   simp only [qal,go_sem,simprocAttr]
 obtain rfl:k=l.length:=by omega
 rw [List.take_length] at hinv
 have hlt2:decide ((l.length:Int)<(l.length:Int))=false:=decide_eq_false (by omega)
 replace fx:=ai15 hlt2 trivial
 repeat' (first|refine stp [0,1,4,5,7,8,9,16] ?_|fail)
 rw [qb8 q l 0 hinv]
theorem pIxVar (q:Vr→Bool) (l:List (Vr)) (fn:FuncId) (caps:List A) (hcl:caps.all clA=true) (hn:l.length≤1048576) (hf:∀k∈l,qaa Tryz.prog fn (.r (Vr.at k)::caps.map D.a) (.a (.v (.bool (q k))))):qaa Tryz.prog 168 [.a (.sl (l.map Vr.at)),.a (.fn fn caps)] (.a (.v (.int .i64 (ixOf q l 0)))):=by
 have hcd:=qhp hcl
 have hld:=qhq hcl
 refine qaa.go Tryz.func168 rfl Tryz.ntmps168 rfl rfl rfl (fun C hro=>?_)
 have fx:=trivial
 repeat' (first|refine stp [0,1,4,5,7,8,9,16] ?_|fail)
 refine WP.loop (α:={ k:Nat // k≤l.length∧(l.take k).any q=false }) (fun y=>[(0,.a (.sl (l.map Vr.at))),(1,.a (.fn fn caps)),(7,.a (.v (.int .i64 (l.length:Nat)))),(8,.a (.v (.int .i64 (y.1:Nat))))]) (fun _=>[]) (fun y=>l.length-y.1) ⟨0,by omega,rfl⟩ (by simp only [qal,go_sem,simprocAttr];first|done|rfl) rfl ?_
 rintro⟨k,hk,hinv⟩
 dsimp only
 by_cases hlt:k<l.length
 ·have hlt2:decide ((k:Int)<((l.length:Nat):Int))=true:=decide_eq_true (by omega)
  obtain⟨z,hz⟩:∃z,l[k]? = some z:=⟨_,List.getElem?_eq_getElem hlt⟩
  have hzm:z∈l:=lm4 hz
  have hzt:=qao hz
  have hix:∀q2,ixD (some 13) q2 (.a (.sl (l.map Vr.at))) (.a (.v (.int .i64 (k:Int))))=some (.a (.ref (Vr.at z) 0)):=fun q2=>qaq rfl (by rw [List.getElem?_map,hz];rfl) (by simp only [go_sem])
  have hw:k<9223372036854775807:=by omega
  have hwu:=qap (k:=k) (by omega)
  replace fx:=ai15 hlt2 (ai15 hix (ai15 hwu (ai15 hcd (ai15 hld trivial))))
  repeat' (first|refine stp [0,1,4,5,7,8,9,16] ?_|(refine stc (r1:=by exact hf z hzm) (r2:=?_);refine rnx ?_)|refine WP.cn (fun hc=>?_) (fun hc=>?_)|fail)
  ·rw [qd5 q l k 0 z hz hinv hc,Nat.zero_add]
  ·refine⟨⟨k+1,by omega,by rw [hzt,List.any_append,hinv];simpa using hc⟩,by dsimp only;omega,?_,rfl⟩
   simp only [qal,go_sem,simprocAttr]
 obtain rfl:k=l.length:=by omega
 rw [List.take_length] at hinv
 have hlt2:decide ((l.length:Int)<(l.length:Int))=false:=decide_eq_false (by omega)
 replace fx:=ai15 hlt2 trivial
 repeat' (first|refine stp [0,1,4,5,7,8,9,16] ?_|fail)
 rw [qb8 q l 0 hinv]
theorem pIxStmt (q:St→Bool) (l:List (St)) (fn:FuncId) (caps:List A) (hcl:caps.all clA=true) (hn:l.length≤1048576) (hf:∀k∈l,qaa Tryz.prog fn (.r (St.at k)::caps.map D.a) (.a (.v (.bool (q k))))):qaa Tryz.prog 201 [.a (.sl (l.map St.at)),.a (.fn fn caps)] (.a (.v (.int .i64 (ixOf q l 0)))):=by
 have hcd:=qhp hcl
 have hld:=qhq hcl
 refine qaa.go Tryz.func201 rfl Tryz.ntmps201 rfl rfl rfl (fun C hro=>?_)
 have fx:=trivial
 repeat' (first|refine stp [0,1,4,5,7,8,9,16] ?_|fail)
 refine WP.loop (α:={ k:Nat // k≤l.length∧(l.take k).any q=false }) (fun y=>[(0,.a (.sl (l.map St.at))),(1,.a (.fn fn caps)),(7,.a (.v (.int .i64 (l.length:Nat)))),(8,.a (.v (.int .i64 (y.1:Nat))))]) (fun _=>[]) (fun y=>l.length-y.1) ⟨0,by omega,rfl⟩ (by simp only [qal,go_sem,simprocAttr];first|done|rfl) rfl ?_
 rintro⟨k,hk,hinv⟩
 dsimp only
 by_cases hlt:k<l.length
 ·have hlt2:decide ((k:Int)<((l.length:Nat):Int))=true:=decide_eq_true (by omega)
  obtain⟨z,hz⟩:∃z,l[k]? = some z:=⟨_,List.getElem?_eq_getElem hlt⟩
  have hzm:z∈l:=lm4 hz
  have hzt:=qao hz
  have hix:∀q2,ixD (some 23) q2 (.a (.sl (l.map St.at))) (.a (.v (.int .i64 (k:Int))))=some (.a (.ref (St.at z) 0)):=fun q2=>qaq rfl (by rw [List.getElem?_map,hz];rfl) (by simp only [go_sem])
  have hw:k<9223372036854775807:=by omega
  have hwu:=qap (k:=k) (by omega)
  replace fx:=ai15 hlt2 (ai15 hix (ai15 hwu (ai15 hcd (ai15 hld trivial))))
  repeat' (first|refine stp [0,1,4,5,7,8,9,16] ?_|(refine stc (r1:=by exact hf z hzm) (r2:=?_);refine rnx ?_)|refine WP.cn (fun hc=>?_) (fun hc=>?_)|fail)
  ·rw [qd5 q l k 0 z hz hinv hc,Nat.zero_add]
  ·refine⟨⟨k+1,by omega,by rw [hzt,List.any_append,hinv];simpa using hc⟩,by dsimp only;omega,?_,rfl⟩
   simp only [qal,go_sem,simprocAttr]
 obtain rfl:k=l.length:=by omega
 rw [List.take_length] at hinv
 have hlt2:decide ((l.length:Int)<(l.length:Int))=false:=decide_eq_false (by omega)
 replace fx:=ai15 hlt2 trivial
 repeat' (first|refine stp [0,1,4,5,7,8,9,16] ?_|fail)
 rw [qb8 q l 0 hinv]
theorem pCfStmt (q:St→Bool) (l:List (St)) (fn:FuncId) (caps:List A) (hcl:caps.all clA=true) (hn:l.length≤1048576) (hf:∀k∈l,qaa Tryz.prog fn (.r (St.at k)::caps.map D.a) (.a (.v (.bool (q k))))):qaa Tryz.prog 154 [.a (.sl (l.map St.at)),.a (.fn fn caps)] (.a (.v (.bool (l.any q)))):=by
 have hcd:=cap_ok0 hcl
 have hld:=cap_ld0 hcl
 refine qaa.go Tryz.func154 rfl Tryz.ntmps154 rfl rfl rfl (fun C hro=>?_)
 have fx:=trivial
 replace fx:=ai15 hcd (ai15 hld trivial)
 repeat' (first|refine stp [0,1,4] ?_|(refine stc (r1:=by exact pIxStmt q l fn caps hcl hn hf) (r2:=?_);refine rnx ?_)|fail)
 exact qam (qgh q l 0)
theorem pIxExpr (q:Ex→Bool) (l:List (Ex)) (fn:FuncId) (caps:List A) (hcl:caps.all clA=true) (hn:l.length≤1048576) (hf:∀k∈l,qaa Tryz.prog fn (.r (Ex.at k)::caps.map D.a) (.a (.v (.bool (q k))))):qaa Tryz.prog 233 [.a (.sl (l.map Ex.at)),.a (.fn fn caps)] (.a (.v (.int .i64 (ixOf q l 0)))):=by
 have hcd:=qhp hcl
 have hld:=qhq hcl
 refine qaa.go Tryz.func233 rfl Tryz.ntmps233 rfl rfl rfl (fun C hro=>?_)
 have fx:=trivial
 repeat' (first|refine stp [0,1,4,5,7,8,9,16] ?_|fail)
 refine WP.loop (α:={ k:Nat // k≤l.length∧(l.take k).any q=false }) (fun y=>[(0,.a (.sl (l.map Ex.at))),(1,.a (.fn fn caps)),(7,.a (.v (.int .i64 (l.length:Nat)))),(8,.a (.v (.int .i64 (y.1:Nat))))]) (fun _=>[]) (fun y=>l.length-y.1) ⟨0,by omega,rfl⟩ (by simp only [qal,go_sem,simprocAttr];first|done|rfl) rfl ?_
 rintro⟨k,hk,hinv⟩
 dsimp only
 by_cases hlt:k<l.length
 ·have hlt2:decide ((k:Int)<((l.length:Nat):Int))=true:=decide_eq_true (by omega)
  obtain⟨z,hz⟩:∃z,l[k]? = some z:=⟨_,List.getElem?_eq_getElem hlt⟩
  have hzm:z∈l:=lm4 hz
  have hzt:=qao hz
  have hix:∀q2,ixD (some 4) q2 (.a (.sl (l.map Ex.at))) (.a (.v (.int .i64 (k:Int))))=some (.a (.ref (Ex.at z) 0)):=fun q2=>qaq rfl (by rw [List.getElem?_map,hz];rfl) (by simp only [go_sem])
  have hw:k<9223372036854775807:=by omega
  have hwu:=qap (k:=k) (by omega)
  replace fx:=ai15 hlt2 (ai15 hix (ai15 hwu (ai15 hcd (ai15 hld trivial))))
  repeat' (first|refine stp [0,1,4,5,7,8,9,16] ?_|(refine stc (r1:=by exact hf z hzm) (r2:=?_);refine rnx ?_)|refine WP.cn (fun hc=>?_) (fun hc=>?_)|fail)
  ·rw [qd5 q l k 0 z hz hinv hc,Nat.zero_add]
  ·refine⟨⟨k+1,by omega,by rw [hzt,List.any_append,hinv];simpa using hc⟩,by dsimp only;omega,?_,rfl⟩
   simp only [qal,go_sem,simprocAttr]
 obtain rfl:k=l.length:=by omega
 rw [List.take_length] at hinv
 have hlt2:decide ((l.length:Int)<(l.length:Int))=false:=decide_eq_false (by omega)
 replace fx:=ai15 hlt2 trivial
 repeat' (first|refine stp [0,1,4,5,7,8,9,16] ?_|fail)
 rw [qb8 q l 0 hinv]
theorem qls (q:Ex→Bool) (l:List (Ex)) (fn:FuncId) (caps:List A) (hcl:caps.all clA=true) (hn:l.length≤1048576) (hf:∀k∈l,qaa Tryz.prog fn (.r (Ex.at k)::caps.map D.a) (.a (.v (.bool (q k))))):qaa Tryz.prog 199 [.a (.sl (l.map Ex.at)),.a (.fn fn caps)] (.a (.v (.bool (l.any q)))):=by
 have hcd:=cap_ok0 hcl
 have hld:=cap_ld0 hcl
 refine qaa.go Tryz.func199 rfl Tryz.ntmps199 rfl rfl rfl (fun C hro=>?_)
 have fx:=trivial
 replace fx:=ai15 hcd (ai15 hld trivial)
 repeat' (first|refine stp [0,1,4] ?_|(refine stc (r1:=by exact pIxExpr q l fn caps hcl hn hf) (r2:=?_);refine rnx ?_)|fail)
 exact qam (qgh q l 0)
end Go.Proofs.YthkojpnjdpbcgaaGreatDoor
