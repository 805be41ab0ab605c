/- slices.IndexFunc and ContainsFunc, on plain data. Conditions: at most 2^20 elements. -/
import Derived.Test.YtibdalkdgjghoaaDoorMg16
import Derived.Test.YtibdalkdgjghoaaDoorMg6
set_option linter.unusedVariables false
set_option maxRecDepth 100000
set_option maxHeartbeats 8000000
set_option linter.unusedSimpArgs false
namespace Go.Proofs.YtibdalkdgjghoaaDoor
open Go.RowKit
def ixOf {α:Type} (q:α→Bool):List α→Nat→Int
 | [],_=>-1
 | x::r,k=>if q x=true then (k:Int) else ixOf q r (k+1)
theorem ixOf_any {α:Type} (q:α→Bool):∀(l:List α) (k:Nat),decide (ixOf q l k≥0)=l.any q
 | [],_=>rfl
 | x::r,k=>by
  rw [ixOf,List.any_cons]
  cases hx:q x
  ·rw [if_neg (by simp),Bool.false_or];exact ixOf_any q r (k+1)
  ·rw [if_pos rfl,Bool.true_or];exact decide_eq_true (by omega)
theorem ixOf_at {α:Type} (q:α→Bool):∀(l:List α) (j k:Nat) (z:α),l[j]? = some z→(l.take j).any q=false→q z=true→ixOf q l k=((k+j:Nat):Int)
 | [],j,k,z,h,_,_=>by simp at h
 | x::r,0,k,z,h,_,hz=>by
  simp at h;subst h
  rw [ixOf,if_pos hz];rfl
 | x::r,j+1,k,z,h,hn,hz=>by
  rw [List.take_succ_cons,List.any_cons,Bool.or_eq_false_iff] at hn
  rw [ixOf,if_neg (by rw [hn.1];simp),ixOf_at q r j (k+1) z (by simpa using h) hn.2 hz]
  congr 1;omega
theorem ixOf_none {α:Type} (q:α→Bool):∀(l:List α) (k:Nat),l.any q=false→ixOf q l k = -1
 | [],_,_=>rfl
 | x::r,k,h=>by
  rw [List.any_cons,Bool.or_eq_false_iff] at h
  rw [ixOf,if_neg (by rw [h.1];simp)];exact ixOf_none q r (k+1) h.2
theorem cap_okD {caps:List A} (hcl:caps.all clA=true):∀st:List Bx,(caps.map D.a).all (ldOkD st)=true:=fun st=>by
 rw [List.all_map];rw [List.all_eq_true] at hcl ⊢
 intro y hy;have:=hcl y hy
 cases y<;>first|rfl|(cases this)|skip
 rename_i f l;cases l with
 | nil=>rfl
 | cons=>cases this
theorem cap_ldD {caps:List A} (hcl:caps.all clA=true):∀st:List Bx,(caps.map D.a).map (lendD st)=caps.map D.a:=fun st=>by
 rw [List.map_map]
 refine List.map_congr_left fun y hy=>?_
 have:=List.all_eq_true.1 hcl y hy
 cases y<;>first|rfl|(cases this)|skip
 rename_i f l;cases l with
 | nil=>rfl
 | cons=>cases this
theorem cap_ok0 {caps:List A} (hcl:caps.all clA=true):∀st:List Bx,caps.all (ldOk0 st)=true:=fun st=>by
 rw [List.all_eq_true] at hcl ⊢
 intro y hy;have:=hcl y hy
 cases y<;>first|rfl|(cases this)|skip
 rename_i f l;cases l with
 | nil=>rfl
 | cons=>cases this
theorem cap_ld0 {caps:List A} (hcl:caps.all clA=true):∀st:List Bx,caps.map (lend0 st)=caps:=fun st=>by
 conv=>rhs;rw [←List.map_id caps]
 refine List.map_congr_left fun y hy=>?_
 have:=List.all_eq_true.1 hcl y hy
 cases y<;>first|rfl|(cases this)|skip
theorem pIxClass (q:Cs→Bool) (l:List (Cs)) (fn:FuncId) (caps:List A) (hcl:caps.all clA=true) (hn:l.length≤2097152) (hf:∀k∈l,DPure Tryd.prog fn (.r (Cs.at k)::caps.map D.a) (.a (.v (.bool (q k))))):DPure Tryd.prog 22 [.a (.sl (l.map Cs.at)),.a (.fn fn caps)] (.a (.v (.int .i64 (ixOf q l 0)))):=by
 have hcd:=cap_okD hcl
 have hld:=cap_ldD hcl
 refine DPure.go Tryd.func22 rfl Tryd.ntmps22 rfl rfl rfl (fun C hro=>?_)
 have fx:=trivial
 repeat' (first|refine stp [0,1,4,5,7,8,9,16] ?_|refine WP.cn (fun hc=>?_) (fun hc=>?_)|fail)
 refine WP.loop (α:={ k:Nat // k≤l.length∧(l.take k).any q=false }) (fun y=>[(0,.a (.sl (l.map Cs.at))),(1,.a (.fn fn caps)),(7,.a (.v (.int .i64 (l.length:Nat)))),(8,.a (.v (.int .i64 (y.1:Nat))))]) (fun _=>[]) (fun y=>l.length-y.1) ⟨0,by omega,rfl⟩ (by simp only [Agree,go_sem,simprocAttr];first|done|rfl) rfl ?_
 rintro⟨k,hk,hinv⟩
 dsimp only
 by_cases hlt:k<l.length
 ·have hlt2:decide ((k:Int)<((l.length:Nat):Int))=true:=decide_eq_true (by omega)
  obtain⟨z,hz⟩:∃z,l[k]? = some z:=⟨_,List.getElem?_eq_getElem hlt⟩
  have hzm:z∈l:=List.mem_of_getElem? hz
  have hzt:=take_snocA hz
  have hix:∀q2,ixD (some 7) q2 (.a (.sl (l.map Cs.at))) (.a (.v (.int .i64 (k:Int))))=some (.a (.ref (Cs.at z) 0)):=fun q2=>ixD_at rfl (by rw [List.getElem?_map,hz];rfl) (by simp only [go_sem])
  have hw:k<9223372036854775807:=by omega
  have hwu:=wrap64n (k:=k) (by omega)
  replace fx:=And.intro hlt2 (And.intro hix (And.intro hwu (And.intro hcd (And.intro hld trivial))))
  repeat' (first|refine stp [0,1,4,5,7,8,9,16] ?_|(refine stc (r1:=by exact hf z hzm) (r2:=?_);refine rnx ?_)|refine WP.cn (fun hc=>?_) (fun hc=>?_)|fail)
  ·rw [ixOf_at q l k 0 z hz hinv hc,Nat.zero_add]
  ·refine⟨⟨k+1,by omega,by rw [hzt,List.any_append,hinv];simpa using hc⟩,by dsimp only;omega,?_,rfl⟩
   simp only [Agree,go_sem,simprocAttr]
 obtain rfl:k=l.length:=by omega
 rw [List.take_length] at hinv
 have hlt2:decide ((l.length:Int)<(l.length:Int))=false:=decide_eq_false (by omega)
 replace fx:=And.intro hlt2 trivial
 repeat' (first|refine stp [0,1,4,5,7,8,9,16] ?_|refine WP.cn (fun hc=>?_) (fun hc=>?_)|fail)
 rw [ixOf_none q l 0 hinv]
theorem pCfClass (q:Cs→Bool) (l:List (Cs)) (fn:FuncId) (caps:List A) (hcl:caps.all clA=true) (hn:l.length≤2097152) (hf:∀k∈l,DPure Tryd.prog fn (.r (Cs.at k)::caps.map D.a) (.a (.v (.bool (q k))))):DPure Tryd.prog 26 [.a (.sl (l.map Cs.at)),.a (.fn fn caps)] (.a (.v (.bool (l.any q)))):=by
 have hcd:=cap_ok0 hcl
 have hld:=cap_ld0 hcl
 refine DPure.go Tryd.func26 rfl Tryd.ntmps26 rfl rfl rfl (fun C hro=>?_)
 have fx:=trivial
 replace fx:=And.intro hcd (And.intro hld trivial)
 repeat' (first|refine stp [0,1,4] ?_|(refine stc (r1:=by exact pIxClass q l fn caps hcl hn hf) (r2:=?_);refine rnx ?_)|fail)
 exact bool_eq (ixOf_any q l 0)
theorem pIxMeth (q:Me→Bool) (l:List (Me)) (fn:FuncId) (caps:List A) (hcl:caps.all clA=true) (hn:l.length≤2097152) (hf:∀k∈l,DPure Tryd.prog fn (.r (Me.at k)::caps.map D.a) (.a (.v (.bool (q k))))):DPure Tryd.prog 52 [.a (.sl (l.map Me.at)),.a (.fn fn caps)] (.a (.v (.int .i64 (ixOf q l 0)))):=by
 have hcd:=cap_okD hcl
 have hld:=cap_ldD hcl
 refine DPure.go Tryd.func52 rfl Tryd.ntmps52 rfl rfl rfl (fun C hro=>?_)
 have fx:=trivial
 repeat' (first|refine stp [0,1,4,5,7,8,9,16] ?_|refine WP.cn (fun hc=>?_) (fun hc=>?_)|fail)
 refine WP.loop (α:={ k:Nat // k≤l.length∧(l.take k).any q=false }) (fun y=>[(0,.a (.sl (l.map Me.at))),(1,.a (.fn fn caps)),(7,.a (.v (.int .i64 (l.length:Nat)))),(8,.a (.v (.int .i64 (y.1:Nat))))]) (fun _=>[]) (fun y=>l.length-y.1) ⟨0,by omega,rfl⟩ (by simp only [Agree,go_sem,simprocAttr];first|done|rfl) rfl ?_
 rintro⟨k,hk,hinv⟩
 dsimp only
 by_cases hlt:k<l.length
 ·have hlt2:decide ((k:Int)<((l.length:Nat):Int))=true:=decide_eq_true (by omega)
  obtain⟨z,hz⟩:∃z,l[k]? = some z:=⟨_,List.getElem?_eq_getElem hlt⟩
  have hzm:z∈l:=List.mem_of_getElem? hz
  have hzt:=take_snocA hz
  have hix:∀q2,ixD (some 17) q2 (.a (.sl (l.map Me.at))) (.a (.v (.int .i64 (k:Int))))=some (.a (.ref (Me.at z) 0)):=fun q2=>ixD_at rfl (by rw [List.getElem?_map,hz];rfl) (by simp only [go_sem])
  have hw:k<9223372036854775807:=by omega
  have hwu:=wrap64n (k:=k) (by omega)
  replace fx:=And.intro hlt2 (And.intro hix (And.intro hwu (And.intro hcd (And.intro hld trivial))))
  repeat' (first|refine stp [0,1,4,5,7,8,9,16] ?_|(refine stc (r1:=by exact hf z hzm) (r2:=?_);refine rnx ?_)|refine WP.cn (fun hc=>?_) (fun hc=>?_)|fail)
  ·rw [ixOf_at q l k 0 z hz hinv hc,Nat.zero_add]
  ·refine⟨⟨k+1,by omega,by rw [hzt,List.any_append,hinv];simpa using hc⟩,by dsimp only;omega,?_,rfl⟩
   simp only [Agree,go_sem,simprocAttr]
 obtain rfl:k=l.length:=by omega
 rw [List.take_length] at hinv
 have hlt2:decide ((l.length:Int)<(l.length:Int))=false:=decide_eq_false (by omega)
 replace fx:=And.intro hlt2 trivial
 repeat' (first|refine stp [0,1,4,5,7,8,9,16] ?_|refine WP.cn (fun hc=>?_) (fun hc=>?_)|fail)
 rw [ixOf_none q l 0 hinv]
theorem pCfMeth (q:Me→Bool) (l:List (Me)) (fn:FuncId) (caps:List A) (hcl:caps.all clA=true) (hn:l.length≤2097152) (hf:∀k∈l,DPure Tryd.prog fn (.r (Me.at k)::caps.map D.a) (.a (.v (.bool (q k))))):DPure Tryd.prog 37 [.a (.sl (l.map Me.at)),.a (.fn fn caps)] (.a (.v (.bool (l.any q)))):=by
 have hcd:=cap_ok0 hcl
 have hld:=cap_ld0 hcl
 refine DPure.go Tryd.func37 rfl Tryd.ntmps37 rfl rfl rfl (fun C hro=>?_)
 have fx:=trivial
 replace fx:=And.intro hcd (And.intro hld trivial)
 repeat' (first|refine stp [0,1,4] ?_|(refine stc (r1:=by exact pIxMeth q l fn caps hcl hn hf) (r2:=?_);refine rnx ?_)|fail)
 exact bool_eq (ixOf_any q l 0)
theorem pIxVar (q:Vr→Bool) (l:List (Vr)) (fn:FuncId) (caps:List A) (hcl:caps.all clA=true) (hn:l.length≤2097152) (hf:∀k∈l,DPure Tryd.prog fn (.r (Vr.at k)::caps.map D.a) (.a (.v (.bool (q k))))):DPure Tryd.prog 62 [.a (.sl (l.map Vr.at)),.a (.fn fn caps)] (.a (.v (.int .i64 (ixOf q l 0)))):=by
 have hcd:=cap_okD hcl
 have hld:=cap_ldD hcl
 refine DPure.go Tryd.func62 rfl Tryd.ntmps62 rfl rfl rfl (fun C hro=>?_)
 have fx:=trivial
 repeat' (first|refine stp [0,1,4,5,7,8,9,16] ?_|refine WP.cn (fun hc=>?_) (fun hc=>?_)|fail)
 refine WP.loop (α:={ k:Nat // k≤l.length∧(l.take k).any q=false }) (fun y=>[(0,.a (.sl (l.map Vr.at))),(1,.a (.fn fn caps)),(7,.a (.v (.int .i64 (l.length:Nat)))),(8,.a (.v (.int .i64 (y.1:Nat))))]) (fun _=>[]) (fun y=>l.length-y.1) ⟨0,by omega,rfl⟩ (by simp only [Agree,go_sem,simprocAttr];first|done|rfl) rfl ?_
 rintro⟨k,hk,hinv⟩
 dsimp only
 by_cases hlt:k<l.length
 ·have hlt2:decide ((k:Int)<((l.length:Nat):Int))=true:=decide_eq_true (by omega)
  obtain⟨z,hz⟩:∃z,l[k]? = some z:=⟨_,List.getElem?_eq_getElem hlt⟩
  have hzm:z∈l:=List.mem_of_getElem? hz
  have hzt:=take_snocA hz
  have hix:∀q2,ixD (some 13) q2 (.a (.sl (l.map Vr.at))) (.a (.v (.int .i64 (k:Int))))=some (.a (.ref (Vr.at z) 0)):=fun q2=>ixD_at rfl (by rw [List.getElem?_map,hz];rfl) (by simp only [go_sem])
  have hw:k<9223372036854775807:=by omega
  have hwu:=wrap64n (k:=k) (by omega)
  replace fx:=And.intro hlt2 (And.intro hix (And.intro hwu (And.intro hcd (And.intro hld trivial))))
  repeat' (first|refine stp [0,1,4,5,7,8,9,16] ?_|(refine stc (r1:=by exact hf z hzm) (r2:=?_);refine rnx ?_)|refine WP.cn (fun hc=>?_) (fun hc=>?_)|fail)
  ·rw [ixOf_at q l k 0 z hz hinv hc,Nat.zero_add]
  ·refine⟨⟨k+1,by omega,by rw [hzt,List.any_append,hinv];simpa using hc⟩,by dsimp only;omega,?_,rfl⟩
   simp only [Agree,go_sem,simprocAttr]
 obtain rfl:k=l.length:=by omega
 rw [List.take_length] at hinv
 have hlt2:decide ((l.length:Int)<(l.length:Int))=false:=decide_eq_false (by omega)
 replace fx:=And.intro hlt2 trivial
 repeat' (first|refine stp [0,1,4,5,7,8,9,16] ?_|refine WP.cn (fun hc=>?_) (fun hc=>?_)|fail)
 rw [ixOf_none q l 0 hinv]
theorem pCfVar (q:Vr→Bool) (l:List (Vr)) (fn:FuncId) (caps:List A) (hcl:caps.all clA=true) (hn:l.length≤2097152) (hf:∀k∈l,DPure Tryd.prog fn (.r (Vr.at k)::caps.map D.a) (.a (.v (.bool (q k))))):DPure Tryd.prog 49 [.a (.sl (l.map Vr.at)),.a (.fn fn caps)] (.a (.v (.bool (l.any q)))):=by
 have hcd:=cap_ok0 hcl
 have hld:=cap_ld0 hcl
 refine DPure.go Tryd.func49 rfl Tryd.ntmps49 rfl rfl rfl (fun C hro=>?_)
 have fx:=trivial
 replace fx:=And.intro hcd (And.intro hld trivial)
 repeat' (first|refine stp [0,1,4] ?_|(refine stc (r1:=by exact pIxVar q l fn caps hcl hn hf) (r2:=?_);refine rnx ?_)|fail)
 exact bool_eq (ixOf_any q l 0)
theorem pIxStmt (q:St→Bool) (l:List (St)) (fn:FuncId) (caps:List A) (hcl:caps.all clA=true) (hn:l.length≤2097152) (hf:∀k∈l,DPure Tryd.prog fn (.r (St.at k)::caps.map D.a) (.a (.v (.bool (q k))))):DPure Tryd.prog 84 [.a (.sl (l.map St.at)),.a (.fn fn caps)] (.a (.v (.int .i64 (ixOf q l 0)))):=by
 have hcd:=cap_okD hcl
 have hld:=cap_ldD hcl
 refine DPure.go Tryd.func84 rfl Tryd.ntmps84 rfl rfl rfl (fun C hro=>?_)
 have fx:=trivial
 repeat' (first|refine stp [0,1,4,5,7,8,9,16] ?_|refine WP.cn (fun hc=>?_) (fun hc=>?_)|fail)
 refine WP.loop (α:={ k:Nat // k≤l.length∧(l.take k).any q=false }) (fun y=>[(0,.a (.sl (l.map St.at))),(1,.a (.fn fn caps)),(7,.a (.v (.int .i64 (l.length:Nat)))),(8,.a (.v (.int .i64 (y.1:Nat))))]) (fun _=>[]) (fun y=>l.length-y.1) ⟨0,by omega,rfl⟩ (by simp only [Agree,go_sem,simprocAttr];first|done|rfl) rfl ?_
 rintro⟨k,hk,hinv⟩
 dsimp only
 by_cases hlt:k<l.length
 ·have hlt2:decide ((k:Int)<((l.length:Nat):Int))=true:=decide_eq_true (by omega)
  obtain⟨z,hz⟩:∃z,l[k]? = some z:=⟨_,List.getElem?_eq_getElem hlt⟩
  have hzm:z∈l:=List.mem_of_getElem? hz
  have hzt:=take_snocA hz
  have hix:∀q2,ixD (some 23) q2 (.a (.sl (l.map St.at))) (.a (.v (.int .i64 (k:Int))))=some (.a (.ref (St.at z) 0)):=fun q2=>ixD_at rfl (by rw [List.getElem?_map,hz];rfl) (by simp only [go_sem])
  have hw:k<9223372036854775807:=by omega
  have hwu:=wrap64n (k:=k) (by omega)
  replace fx:=And.intro hlt2 (And.intro hix (And.intro hwu (And.intro hcd (And.intro hld trivial))))
  repeat' (first|refine stp [0,1,4,5,7,8,9,16] ?_|(refine stc (r1:=by exact hf z hzm) (r2:=?_);refine rnx ?_)|refine WP.cn (fun hc=>?_) (fun hc=>?_)|fail)
  ·rw [ixOf_at q l k 0 z hz hinv hc,Nat.zero_add]
  ·refine⟨⟨k+1,by omega,by rw [hzt,List.any_append,hinv];simpa using hc⟩,by dsimp only;omega,?_,rfl⟩
   simp only [Agree,go_sem,simprocAttr]
 obtain rfl:k=l.length:=by omega
 rw [List.take_length] at hinv
 have hlt2:decide ((l.length:Int)<(l.length:Int))=false:=decide_eq_false (by omega)
 replace fx:=And.intro hlt2 trivial
 repeat' (first|refine stp [0,1,4,5,7,8,9,16] ?_|refine WP.cn (fun hc=>?_) (fun hc=>?_)|fail)
 rw [ixOf_none q l 0 hinv]
theorem pCfStmt (q:St→Bool) (l:List (St)) (fn:FuncId) (caps:List A) (hcl:caps.all clA=true) (hn:l.length≤2097152) (hf:∀k∈l,DPure Tryd.prog fn (.r (St.at k)::caps.map D.a) (.a (.v (.bool (q k))))):DPure Tryd.prog 79 [.a (.sl (l.map St.at)),.a (.fn fn caps)] (.a (.v (.bool (l.any q)))):=by
 have hcd:=cap_ok0 hcl
 have hld:=cap_ld0 hcl
 refine DPure.go Tryd.func79 rfl Tryd.ntmps79 rfl rfl rfl (fun C hro=>?_)
 have fx:=trivial
 replace fx:=And.intro hcd (And.intro hld trivial)
 repeat' (first|refine stp [0,1,4] ?_|(refine stc (r1:=by exact pIxStmt q l fn caps hcl hn hf) (r2:=?_);refine rnx ?_)|fail)
 exact bool_eq (ixOf_any q l 0)
theorem pIxExpr (q:Ex→Bool) (l:List (Ex)) (fn:FuncId) (caps:List A) (hcl:caps.all clA=true) (hn:l.length≤2097152) (hf:∀k∈l,DPure Tryd.prog fn (.r (Ex.at k)::caps.map D.a) (.a (.v (.bool (q k))))):DPure Tryd.prog 89 [.a (.sl (l.map Ex.at)),.a (.fn fn caps)] (.a (.v (.int .i64 (ixOf q l 0)))):=by
 have hcd:=cap_okD hcl
 have hld:=cap_ldD hcl
 refine DPure.go Tryd.func89 rfl Tryd.ntmps89 rfl rfl rfl (fun C hro=>?_)
 have fx:=trivial
 repeat' (first|refine stp [0,1,4,5,7,8,9,16] ?_|refine WP.cn (fun hc=>?_) (fun hc=>?_)|fail)
 refine WP.loop (α:={ k:Nat // k≤l.length∧(l.take k).any q=false }) (fun y=>[(0,.a (.sl (l.map Ex.at))),(1,.a (.fn fn caps)),(7,.a (.v (.int .i64 (l.length:Nat)))),(8,.a (.v (.int .i64 (y.1:Nat))))]) (fun _=>[]) (fun y=>l.length-y.1) ⟨0,by omega,rfl⟩ (by simp only [Agree,go_sem,simprocAttr];first|done|rfl) rfl ?_
 rintro⟨k,hk,hinv⟩
 dsimp only
 by_cases hlt:k<l.length
 ·have hlt2:decide ((k:Int)<((l.length:Nat):Int))=true:=decide_eq_true (by omega)
  obtain⟨z,hz⟩:∃z,l[k]? = some z:=⟨_,List.getElem?_eq_getElem hlt⟩
  have hzm:z∈l:=List.mem_of_getElem? hz
  have hzt:=take_snocA hz
  have hix:∀q2,ixD (some 4) q2 (.a (.sl (l.map Ex.at))) (.a (.v (.int .i64 (k:Int))))=some (.a (.ref (Ex.at z) 0)):=fun q2=>ixD_at rfl (by rw [List.getElem?_map,hz];rfl) (by simp only [go_sem])
  have hw:k<9223372036854775807:=by omega
  have hwu:=wrap64n (k:=k) (by omega)
  replace fx:=And.intro hlt2 (And.intro hix (And.intro hwu (And.intro hcd (And.intro hld trivial))))
  repeat' (first|refine stp [0,1,4,5,7,8,9,16] ?_|(refine stc (r1:=by exact hf z hzm) (r2:=?_);refine rnx ?_)|refine WP.cn (fun hc=>?_) (fun hc=>?_)|fail)
  ·rw [ixOf_at q l k 0 z hz hinv hc,Nat.zero_add]
  ·refine⟨⟨k+1,by omega,by rw [hzt,List.any_append,hinv];simpa using hc⟩,by dsimp only;omega,?_,rfl⟩
   simp only [Agree,go_sem,simprocAttr]
 obtain rfl:k=l.length:=by omega
 rw [List.take_length] at hinv
 have hlt2:decide ((l.length:Int)<(l.length:Int))=false:=decide_eq_false (by omega)
 replace fx:=And.intro hlt2 trivial
 repeat' (first|refine stp [0,1,4,5,7,8,9,16] ?_|refine WP.cn (fun hc=>?_) (fun hc=>?_)|fail)
 rw [ixOf_none q l 0 hinv]
theorem pCfExpr (q:Ex→Bool) (l:List (Ex)) (fn:FuncId) (caps:List A) (hcl:caps.all clA=true) (hn:l.length≤2097152) (hf:∀k∈l,DPure Tryd.prog fn (.r (Ex.at k)::caps.map D.a) (.a (.v (.bool (q k))))):DPure Tryd.prog 82 [.a (.sl (l.map Ex.at)),.a (.fn fn caps)] (.a (.v (.bool (l.any q)))):=by
 have hcd:=cap_ok0 hcl
 have hld:=cap_ld0 hcl
 refine DPure.go Tryd.func82 rfl Tryd.ntmps82 rfl rfl rfl (fun C hro=>?_)
 have fx:=trivial
 replace fx:=And.intro hcd (And.intro hld trivial)
 repeat' (first|refine stp [0,1,4] ?_|(refine stc (r1:=by exact pIxExpr q l fn caps hcl hn hf) (r2:=?_);refine rnx ?_)|fail)
 exact bool_eq (ixOf_any q l 0)
theorem pIxStr (q:List UInt8→Bool) (l:List (List UInt8)) (fn:FuncId) (caps:List A) (hcl:caps.all clA=true) (hn:l.length≤2097152) (hf:∀k∈l,DPure Tryd.prog fn (.a (.v (.string (bs k)))::caps.map D.a) (.a (.v (.bool (q k))))):DPure Tryd.prog 61 [.a (.sl (l.map strAt)),.a (.fn fn caps)] (.a (.v (.int .i64 (ixOf q l 0)))):=by
 have hcd:=cap_okD hcl
 have hld:=cap_ldD hcl
 refine DPure.go Tryd.func61 rfl Tryd.ntmps61 rfl rfl rfl (fun C hro=>?_)
 have fx:=trivial
 repeat' (first|refine stp [0,1,4,5,7,8,9,16] ?_|refine WP.cn (fun hc=>?_) (fun hc=>?_)|fail)
 refine WP.loop (α:={ k:Nat // k≤l.length∧(l.take k).any q=false }) (fun y=>[(0,.a (.sl (l.map strAt))),(1,.a (.fn fn caps)),(7,.a (.v (.int .i64 (l.length:Nat)))),(8,.a (.v (.int .i64 (y.1:Nat))))]) (fun _=>[]) (fun y=>l.length-y.1) ⟨0,by omega,rfl⟩ (by simp only [Agree,go_sem,simprocAttr];first|done|rfl) rfl ?_
 rintro⟨k,hk,hinv⟩
 dsimp only
 by_cases hlt:k<l.length
 ·have hlt2:decide ((k:Int)<((l.length:Nat):Int))=true:=decide_eq_true (by omega)
  obtain⟨z,hz⟩:∃z,l[k]? = some z:=⟨_,List.getElem?_eq_getElem hlt⟩
  have hzm:z∈l:=List.mem_of_getElem? hz
  have hzt:=take_snocA hz
  have hix:∀q2,ixD (some 1) q2 (.a (.sl (l.map strAt))) (.a (.v (.int .i64 (k:Int))))=some (.a (.ref (strAt z) 0)):=fun q2=>ixD_at rfl (by rw [List.getElem?_map,hz];rfl) (by simp only [go_sem])
  have hw:k<9223372036854775807:=by omega
  have hwu:=wrap64n (k:=k) (by omega)
  replace fx:=And.intro hlt2 (And.intro hix (And.intro hwu (And.intro hcd (And.intro hld trivial))))
  repeat' (first|refine stp [0,1,4,5,7,8,9,16] ?_|(refine stc (r1:=by exact hf z hzm) (r2:=?_);refine rnx ?_)|refine WP.cn (fun hc=>?_) (fun hc=>?_)|fail)
  ·rw [ixOf_at q l k 0 z hz hinv hc,Nat.zero_add]
  ·refine⟨⟨k+1,by omega,by rw [hzt,List.any_append,hinv];simpa using hc⟩,by dsimp only;omega,?_,rfl⟩
   simp only [Agree,go_sem,simprocAttr]
 obtain rfl:k=l.length:=by omega
 rw [List.take_length] at hinv
 have hlt2:decide ((l.length:Int)<(l.length:Int))=false:=decide_eq_false (by omega)
 replace fx:=And.intro hlt2 trivial
 repeat' (first|refine stp [0,1,4,5,7,8,9,16] ?_|refine WP.cn (fun hc=>?_) (fun hc=>?_)|fail)
 rw [ixOf_none q l 0 hinv]
theorem pCfStr (q:List UInt8→Bool) (l:List (List UInt8)) (fn:FuncId) (caps:List A) (hcl:caps.all clA=true) (hn:l.length≤2097152) (hf:∀k∈l,DPure Tryd.prog fn (.a (.v (.string (bs k)))::caps.map D.a) (.a (.v (.bool (q k))))):DPure Tryd.prog 46 [.a (.sl (l.map strAt)),.a (.fn fn caps)] (.a (.v (.bool (l.any q)))):=by
 have hcd:=cap_ok0 hcl
 have hld:=cap_ld0 hcl
 refine DPure.go Tryd.func46 rfl Tryd.ntmps46 rfl rfl rfl (fun C hro=>?_)
 have fx:=trivial
 replace fx:=And.intro hcd (And.intro hld trivial)
 repeat' (first|refine stp [0,1,4] ?_|(refine stc (r1:=by exact pIxStr q l fn caps hcl hn hf) (r2:=?_);refine rnx ?_)|fail)
 exact bool_eq (ixOf_any q l 0)
theorem pIxOwner (q:Int×Int→Bool) (l:List (Int×Int)) (fn:FuncId) (caps:List A) (hcl:caps.all clA=true) (hn:l.length≤2097152) (hf:∀k∈l,DPure Tryd.prog fn (.r (owAt k)::caps.map D.a) (.a (.v (.bool (q k))))):DPure Tryd.prog 69 [.a (.sl (l.map owAt)),.a (.fn fn caps)] (.a (.v (.int .i64 (ixOf q l 0)))):=by
 have hcd:=cap_okD hcl
 have hld:=cap_ldD hcl
 refine DPure.go Tryd.func69 rfl Tryd.ntmps69 rfl rfl rfl (fun C hro=>?_)
 have fx:=trivial
 repeat' (first|refine stp [0,1,4,5,7,8,9,16] ?_|refine WP.cn (fun hc=>?_) (fun hc=>?_)|fail)
 refine WP.loop (α:={ k:Nat // k≤l.length∧(l.take k).any q=false }) (fun y=>[(0,.a (.sl (l.map owAt))),(1,.a (.fn fn caps)),(7,.a (.v (.int .i64 (l.length:Nat)))),(8,.a (.v (.int .i64 (y.1:Nat))))]) (fun _=>[]) (fun y=>l.length-y.1) ⟨0,by omega,rfl⟩ (by simp only [Agree,go_sem,simprocAttr];first|done|rfl) rfl ?_
 rintro⟨k,hk,hinv⟩
 dsimp only
 by_cases hlt:k<l.length
 ·have hlt2:decide ((k:Int)<((l.length:Nat):Int))=true:=decide_eq_true (by omega)
  obtain⟨z,hz⟩:∃z,l[k]? = some z:=⟨_,List.getElem?_eq_getElem hlt⟩
  have hzm:z∈l:=List.mem_of_getElem? hz
  have hzt:=take_snocA hz
  have hix:∀q2,ixD (some 2) q2 (.a (.sl (l.map owAt))) (.a (.v (.int .i64 (k:Int))))=some (.a (.ref (owAt z) 0)):=fun q2=>ixD_at rfl (by rw [List.getElem?_map,hz];rfl) (by simp only [go_sem])
  have hw:k<9223372036854775807:=by omega
  have hwu:=wrap64n (k:=k) (by omega)
  replace fx:=And.intro hlt2 (And.intro hix (And.intro hwu (And.intro hcd (And.intro hld trivial))))
  repeat' (first|refine stp [0,1,4,5,7,8,9,16] ?_|(refine stc (r1:=by exact hf z hzm) (r2:=?_);refine rnx ?_)|refine WP.cn (fun hc=>?_) (fun hc=>?_)|fail)
  ·rw [ixOf_at q l k 0 z hz hinv hc,Nat.zero_add]
  ·refine⟨⟨k+1,by omega,by rw [hzt,List.any_append,hinv];simpa using hc⟩,by dsimp only;omega,?_,rfl⟩
   simp only [Agree,go_sem,simprocAttr]
 obtain rfl:k=l.length:=by omega
 rw [List.take_length] at hinv
 have hlt2:decide ((l.length:Int)<(l.length:Int))=false:=decide_eq_false (by omega)
 replace fx:=And.intro hlt2 trivial
 repeat' (first|refine stp [0,1,4,5,7,8,9,16] ?_|refine WP.cn (fun hc=>?_) (fun hc=>?_)|fail)
 rw [ixOf_none q l 0 hinv]
theorem pCfOwner (q:Int×Int→Bool) (l:List (Int×Int)) (fn:FuncId) (caps:List A) (hcl:caps.all clA=true) (hn:l.length≤2097152) (hf:∀k∈l,DPure Tryd.prog fn (.r (owAt k)::caps.map D.a) (.a (.v (.bool (q k))))):DPure Tryd.prog 63 [.a (.sl (l.map owAt)),.a (.fn fn caps)] (.a (.v (.bool (l.any q)))):=by
 have hcd:=cap_ok0 hcl
 have hld:=cap_ld0 hcl
 refine DPure.go Tryd.func63 rfl Tryd.ntmps63 rfl rfl rfl (fun C hro=>?_)
 have fx:=trivial
 replace fx:=And.intro hcd (And.intro hld trivial)
 repeat' (first|refine stp [0,1,4] ?_|(refine stc (r1:=by exact pIxOwner q l fn caps hcl hn hf) (r2:=?_);refine rnx ?_)|fail)
 exact bool_eq (ixOf_any q l 0)
end Go.Proofs.YtibdalkdgjghoaaDoor
