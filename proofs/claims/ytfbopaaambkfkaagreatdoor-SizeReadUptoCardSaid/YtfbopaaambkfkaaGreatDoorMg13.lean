/- slices.EqualFunc and Equal, on plain data. Conditions: at most 2^20 elements. -/
import Derived.Test.YtfbopaaambkfkaaGreatDoorMg12
import Derived.Test.YtfbopaaambkfkaaGreatDoorMg6
set_option linter.unusedVariables false
set_option maxRecDepth 100000
set_option maxHeartbeats 8000000
set_option linter.unusedSimpArgs false
namespace Go.Proofs.YtfbopaaambkfkaaGreatDoor
open Go.RowKit
theorem pEqClass (q:Cs→Cs→Bool) (l m:List Cs) (fn:FuncId) (hn:l.length≤1048576) (hf:∀k∈l,∀y,qaa Tryz.prog fn [.r (Cs.at k),.r (Cs.at y)] (.a (.v (.bool (q k y))))):qaa Tryz.prog 25 [.a (.sl (l.map Cs.at)),.a (.sl (m.map Cs.at)),.a (.fn fn [])] (.a (.v (.bool (l.length==m.length&&(l.zip m).all fun p=>q p.1 p.2)))):=by
 refine qaa.go Tryz.func25 rfl Tryz.ntmps25 rfl rfl rfl (fun C hro=>?_)
 have fx:=trivial
 repeat' (first|refine stp [0,1,2,6,7,8,9,14,15,16,17,18,30] ?_|refine WP.cn (fun hc=>?_) (fun hc=>?_)|fail)
 ·refine qaf ?_
  rw [zlen _ (lenB hc)]
 have hl:=lenE hc
 have hse:=zeql (fun p:Cs×Cs=>q p.1 p.2) hl
 refine WP.loopX (α:={ k:Nat // k≤l.length∧((l.zip m).take k).all (fun p=>q p.1 p.2)=true }) (fun y=>[(1,.a (.sl (m.map Cs.at))),(2,.a (.fn fn [])),(15,.a (.sl (l.map Cs.at))),(16,.a (.v (.int .i64 (l.length:Nat)))),(17,.a (.v (.int .i64 (y.1:Nat))))]) (fun _=>[]) (fun y=>l.length-y.1) ⟨0,by omega,rfl⟩ (by simp only [qal,go_sem,simprocAttr];first|done|rfl) rfl ?_
 rintro⟨k,hk,hinv⟩
 dsimp only
 by_cases hlt:k<l.length
 ·have hlt2:decide ((k:Int)<((l.length:Nat):Int))=true:=decide_eq_true (by omega)
  obtain⟨z,hz⟩:∃z,l[k]? = some z:=⟨_,List.getElem?_eq_getElem hlt⟩
  have hzm:z∈l:=lm4 hz
  have hzt:=qag hz
  have hix:∀q2,ixD (some 7) q2 (.a (.sl (l.map Cs.at))) (.a (.v (.int .i64 (k:Int))))=some (.a (.ref (Cs.at z) 0)):=fun q2=>qar rfl (by rw [List.getElem?_map,hz];rfl) (by simp only [go_sem])
  obtain⟨v,hv⟩:∃z,m[k]? = some z:=⟨_,List.getElem?_eq_getElem (by omega)⟩
  have hvm:v∈m:=lm4 hv
  have hiy:∀q2,ixD (some 7) q2 (.a (.sl (m.map Cs.at))) (.a (.v (.int .i64 (k:Int))))=some (.a (.ref (Cs.at v) 0)):=fun q2=>qar rfl (by rw [List.getElem?_map,hv];rfl) (by simp only [go_sem])
  have hw:k<9223372036854775807:=by omega
  have hwu:=qa8 (k:=k) (by omega)
  have hzv:(l.zip m)[k]? = some (z,v):=by rw [List.getElem?_zip_eq_some];exact⟨hz,hv⟩
  replace fx:=ai12 hlt2 (ai12 hix (ai12 hiy (ai12 hwu trivial)))
  repeat' (first|refine stp [0,1,2,6,7,8,9,14,15,16,17,18,30] ?_|(refine stc (r1:=by exact hf z hzm v) (r2:=?_);refine rnx ?_)|refine WP.cn (fun hc=>?_) (fun hc=>?_)|fail)
  ·refine qaf ?_
   rw [hse,show ((l.zip m).all fun p=>q p.1 p.2)=false by rw [List.all_eq_false];exact⟨(z,v),lm4 hzv,by simpa using hc⟩]
  ·refine⟨⟨k+1,by omega,?_⟩,[.cell (Cs.at z),.cell (Cs.at v)],by dsimp only;omega,?_,rfl,rfl,rfl⟩
   ·rw [qag hzv,List.all_append,hinv];simpa using hc
   ·simp only [qal,go_sem,simprocAttr]
 obtain rfl:k=l.length:=by omega
 have hlt2:decide ((l.length:Int)<(l.length:Int))=false:=decide_eq_false (by omega)
 rw [List.take_of_length_le (by rw [List.length_zip];omega)] at hinv
 replace fx:=ai12 hlt2 trivial
 repeat' (first|refine stp [0,1,2,6,7,8,9,14,15,16,17,18,30] ?_|refine WP.cn (fun hc=>?_) (fun hc=>?_)|fail)
 exact qaf (by rw [hse,hinv])
theorem pEqMeth (q:Me→Me→Bool) (l m:List Me) (fn:FuncId) (hn:l.length≤1048576) (hf:∀k∈l,∀y,qaa Tryz.prog fn [.r (Me.at k),.r (Me.at y)] (.a (.v (.bool (q k y))))):qaa Tryz.prog 54 [.a (.sl (l.map Me.at)),.a (.sl (m.map Me.at)),.a (.fn fn [])] (.a (.v (.bool (l.length==m.length&&(l.zip m).all fun p=>q p.1 p.2)))):=by
 refine qaa.go Tryz.func54 rfl Tryz.ntmps54 rfl rfl rfl (fun C hro=>?_)
 have fx:=trivial
 repeat' (first|refine stp [0,1,2,6,7,8,9,14,15,16,17,18,30] ?_|refine WP.cn (fun hc=>?_) (fun hc=>?_)|fail)
 ·refine qaf ?_
  rw [zlen _ (lenB hc)]
 have hl:=lenE hc
 have hse:=zeql (fun p:Me×Me=>q p.1 p.2) hl
 refine WP.loopX (α:={ k:Nat // k≤l.length∧((l.zip m).take k).all (fun p=>q p.1 p.2)=true }) (fun y=>[(1,.a (.sl (m.map Me.at))),(2,.a (.fn fn [])),(15,.a (.sl (l.map Me.at))),(16,.a (.v (.int .i64 (l.length:Nat)))),(17,.a (.v (.int .i64 (y.1:Nat))))]) (fun _=>[]) (fun y=>l.length-y.1) ⟨0,by omega,rfl⟩ (by simp only [qal,go_sem,simprocAttr];first|done|rfl) rfl ?_
 rintro⟨k,hk,hinv⟩
 dsimp only
 by_cases hlt:k<l.length
 ·have hlt2:decide ((k:Int)<((l.length:Nat):Int))=true:=decide_eq_true (by omega)
  obtain⟨z,hz⟩:∃z,l[k]? = some z:=⟨_,List.getElem?_eq_getElem hlt⟩
  have hzm:z∈l:=lm4 hz
  have hzt:=qag hz
  have hix:∀q2,ixD (some 17) q2 (.a (.sl (l.map Me.at))) (.a (.v (.int .i64 (k:Int))))=some (.a (.ref (Me.at z) 0)):=fun q2=>qar rfl (by rw [List.getElem?_map,hz];rfl) (by simp only [go_sem])
  obtain⟨v,hv⟩:∃z,m[k]? = some z:=⟨_,List.getElem?_eq_getElem (by omega)⟩
  have hvm:v∈m:=lm4 hv
  have hiy:∀q2,ixD (some 17) q2 (.a (.sl (m.map Me.at))) (.a (.v (.int .i64 (k:Int))))=some (.a (.ref (Me.at v) 0)):=fun q2=>qar rfl (by rw [List.getElem?_map,hv];rfl) (by simp only [go_sem])
  have hw:k<9223372036854775807:=by omega
  have hwu:=qa8 (k:=k) (by omega)
  have hzv:(l.zip m)[k]? = some (z,v):=by rw [List.getElem?_zip_eq_some];exact⟨hz,hv⟩
  replace fx:=ai12 hlt2 (ai12 hix (ai12 hiy (ai12 hwu trivial)))
  repeat' (first|refine stp [0,1,2,6,7,8,9,14,15,16,17,18,30] ?_|(refine stc (r1:=by exact hf z hzm v) (r2:=?_);refine rnx ?_)|refine WP.cn (fun hc=>?_) (fun hc=>?_)|fail)
  ·refine qaf ?_
   rw [hse,show ((l.zip m).all fun p=>q p.1 p.2)=false by rw [List.all_eq_false];exact⟨(z,v),lm4 hzv,by simpa using hc⟩]
  ·refine⟨⟨k+1,by omega,?_⟩,[.cell (Me.at z),.cell (Me.at v)],by dsimp only;omega,?_,rfl,rfl,rfl⟩
   ·rw [qag hzv,List.all_append,hinv];simpa using hc
   ·simp only [qal,go_sem,simprocAttr]
 obtain rfl:k=l.length:=by omega
 have hlt2:decide ((l.length:Int)<(l.length:Int))=false:=decide_eq_false (by omega)
 rw [List.take_of_length_le (by rw [List.length_zip];omega)] at hinv
 replace fx:=ai12 hlt2 trivial
 repeat' (first|refine stp [0,1,2,6,7,8,9,14,15,16,17,18,30] ?_|refine WP.cn (fun hc=>?_) (fun hc=>?_)|fail)
 exact qaf (by rw [hse,hinv])
theorem pEqVar (q:Vr→Vr→Bool) (l m:List Vr) (fn:FuncId) (hn:l.length≤1048576) (hf:∀k∈l,∀y,qaa Tryz.prog fn [.r (Vr.at k),.r (Vr.at y)] (.a (.v (.bool (q k y))))):qaa Tryz.prog 77 [.a (.sl (l.map Vr.at)),.a (.sl (m.map Vr.at)),.a (.fn fn [])] (.a (.v (.bool (l.length==m.length&&(l.zip m).all fun p=>q p.1 p.2)))):=by
 refine qaa.go Tryz.func77 rfl Tryz.ntmps77 rfl rfl rfl (fun C hro=>?_)
 have fx:=trivial
 repeat' (first|refine stp [0,1,2,6,7,8,9,14,15,16,17,18,30] ?_|refine WP.cn (fun hc=>?_) (fun hc=>?_)|fail)
 ·refine qaf ?_
  rw [zlen _ (lenB hc)]
 have hl:=lenE hc
 have hse:=zeql (fun p:Vr×Vr=>q p.1 p.2) hl
 refine WP.loopX (α:={ k:Nat // k≤l.length∧((l.zip m).take k).all (fun p=>q p.1 p.2)=true }) (fun y=>[(1,.a (.sl (m.map Vr.at))),(2,.a (.fn fn [])),(15,.a (.sl (l.map Vr.at))),(16,.a (.v (.int .i64 (l.length:Nat)))),(17,.a (.v (.int .i64 (y.1:Nat))))]) (fun _=>[]) (fun y=>l.length-y.1) ⟨0,by omega,rfl⟩ (by simp only [qal,go_sem,simprocAttr];first|done|rfl) rfl ?_
 rintro⟨k,hk,hinv⟩
 dsimp only
 by_cases hlt:k<l.length
 ·have hlt2:decide ((k:Int)<((l.length:Nat):Int))=true:=decide_eq_true (by omega)
  obtain⟨z,hz⟩:∃z,l[k]? = some z:=⟨_,List.getElem?_eq_getElem hlt⟩
  have hzm:z∈l:=lm4 hz
  have hzt:=qag hz
  have hix:∀q2,ixD (some 13) q2 (.a (.sl (l.map Vr.at))) (.a (.v (.int .i64 (k:Int))))=some (.a (.ref (Vr.at z) 0)):=fun q2=>qar rfl (by rw [List.getElem?_map,hz];rfl) (by simp only [go_sem])
  obtain⟨v,hv⟩:∃z,m[k]? = some z:=⟨_,List.getElem?_eq_getElem (by omega)⟩
  have hvm:v∈m:=lm4 hv
  have hiy:∀q2,ixD (some 13) q2 (.a (.sl (m.map Vr.at))) (.a (.v (.int .i64 (k:Int))))=some (.a (.ref (Vr.at v) 0)):=fun q2=>qar rfl (by rw [List.getElem?_map,hv];rfl) (by simp only [go_sem])
  have hw:k<9223372036854775807:=by omega
  have hwu:=qa8 (k:=k) (by omega)
  have hzv:(l.zip m)[k]? = some (z,v):=by rw [List.getElem?_zip_eq_some];exact⟨hz,hv⟩
  replace fx:=ai12 hlt2 (ai12 hix (ai12 hiy (ai12 hwu trivial)))
  repeat' (first|refine stp [0,1,2,6,7,8,9,14,15,16,17,18,30] ?_|(refine stc (r1:=by exact hf z hzm v) (r2:=?_);refine rnx ?_)|refine WP.cn (fun hc=>?_) (fun hc=>?_)|fail)
  ·refine qaf ?_
   rw [hse,show ((l.zip m).all fun p=>q p.1 p.2)=false by rw [List.all_eq_false];exact⟨(z,v),lm4 hzv,by simpa using hc⟩]
  ·refine⟨⟨k+1,by omega,?_⟩,[.cell (Vr.at z),.cell (Vr.at v)],by dsimp only;omega,?_,rfl,rfl,rfl⟩
   ·rw [qag hzv,List.all_append,hinv];simpa using hc
   ·simp only [qal,go_sem,simprocAttr]
 obtain rfl:k=l.length:=by omega
 have hlt2:decide ((l.length:Int)<(l.length:Int))=false:=decide_eq_false (by omega)
 rw [List.take_of_length_le (by rw [List.length_zip];omega)] at hinv
 replace fx:=ai12 hlt2 trivial
 repeat' (first|refine stp [0,1,2,6,7,8,9,14,15,16,17,18,30] ?_|refine WP.cn (fun hc=>?_) (fun hc=>?_)|fail)
 exact qaf (by rw [hse,hinv])
theorem qkm (q:St→St→Bool) (l m:List St) (fn:FuncId) (hn:l.length≤1048576) (hf:∀k∈l,∀y,qaa Tryz.prog fn [.r (St.at k),.r (St.at y)] (.a (.v (.bool (q k y))))):qaa Tryz.prog 79 [.a (.sl (l.map St.at)),.a (.sl (m.map St.at)),.a (.fn fn [])] (.a (.v (.bool (l.length==m.length&&(l.zip m).all fun p=>q p.1 p.2)))):=by
 refine qaa.go Tryz.func79 rfl Tryz.ntmps79 rfl rfl rfl (fun C hro=>?_)
 have fx:=trivial
 repeat' (first|refine stp [0,1,2,6,7,8,9,14,15,16,17,18,30] ?_|refine WP.cn (fun hc=>?_) (fun hc=>?_)|fail)
 ·refine qaf ?_
  rw [zlen _ (lenB hc)]
 have hl:=lenE hc
 have hse:=zeql (fun p:St×St=>q p.1 p.2) hl
 refine WP.loopX (α:={ k:Nat // k≤l.length∧((l.zip m).take k).all (fun p=>q p.1 p.2)=true }) (fun y=>[(1,.a (.sl (m.map St.at))),(2,.a (.fn fn [])),(15,.a (.sl (l.map St.at))),(16,.a (.v (.int .i64 (l.length:Nat)))),(17,.a (.v (.int .i64 (y.1:Nat))))]) (fun _=>[]) (fun y=>l.length-y.1) ⟨0,by omega,rfl⟩ (by simp only [qal,go_sem,simprocAttr];first|done|rfl) rfl ?_
 rintro⟨k,hk,hinv⟩
 dsimp only
 by_cases hlt:k<l.length
 ·have hlt2:decide ((k:Int)<((l.length:Nat):Int))=true:=decide_eq_true (by omega)
  obtain⟨z,hz⟩:∃z,l[k]? = some z:=⟨_,List.getElem?_eq_getElem hlt⟩
  have hzm:z∈l:=lm4 hz
  have hzt:=qag hz
  have hix:∀q2,ixD (some 23) q2 (.a (.sl (l.map St.at))) (.a (.v (.int .i64 (k:Int))))=some (.a (.ref (St.at z) 0)):=fun q2=>qar rfl (by rw [List.getElem?_map,hz];rfl) (by simp only [go_sem])
  obtain⟨v,hv⟩:∃z,m[k]? = some z:=⟨_,List.getElem?_eq_getElem (by omega)⟩
  have hvm:v∈m:=lm4 hv
  have hiy:∀q2,ixD (some 23) q2 (.a (.sl (m.map St.at))) (.a (.v (.int .i64 (k:Int))))=some (.a (.ref (St.at v) 0)):=fun q2=>qar rfl (by rw [List.getElem?_map,hv];rfl) (by simp only [go_sem])
  have hw:k<9223372036854775807:=by omega
  have hwu:=qa8 (k:=k) (by omega)
  have hzv:(l.zip m)[k]? = some (z,v):=by rw [List.getElem?_zip_eq_some];exact⟨hz,hv⟩
  replace fx:=ai12 hlt2 (ai12 hix (ai12 hiy (ai12 hwu trivial)))
  repeat' (first|refine stp [0,1,2,6,7,8,9,14,15,16,17,18,30] ?_|(refine stc (r1:=by exact hf z hzm v) (r2:=?_);refine rnx ?_)|refine WP.cn (fun hc=>?_) (fun hc=>?_)|fail)
  ·refine qaf ?_
   rw [hse,show ((l.zip m).all fun p=>q p.1 p.2)=false by rw [List.all_eq_false];exact⟨(z,v),lm4 hzv,by simpa using hc⟩]
  ·refine⟨⟨k+1,by omega,?_⟩,[.cell (St.at z),.cell (St.at v)],by dsimp only;omega,?_,rfl,rfl,rfl⟩
   ·rw [qag hzv,List.all_append,hinv];simpa using hc
   ·simp only [qal,go_sem,simprocAttr]
 obtain rfl:k=l.length:=by omega
 have hlt2:decide ((l.length:Int)<(l.length:Int))=false:=decide_eq_false (by omega)
 rw [List.take_of_length_le (by rw [List.length_zip];omega)] at hinv
 replace fx:=ai12 hlt2 trivial
 repeat' (first|refine stp [0,1,2,6,7,8,9,14,15,16,17,18,30] ?_|refine WP.cn (fun hc=>?_) (fun hc=>?_)|fail)
 exact qaf (by rw [hse,hinv])
theorem pEqExpr (q:Ex→Ex→Bool) (l m:List Ex) (fn:FuncId) (hn:l.length≤1048576) (hf:∀k∈l,∀y,qaa Tryz.prog fn [.r (Ex.at k),.r (Ex.at y)] (.a (.v (.bool (q k y))))):qaa Tryz.prog 102 [.a (.sl (l.map Ex.at)),.a (.sl (m.map Ex.at)),.a (.fn fn [])] (.a (.v (.bool (l.length==m.length&&(l.zip m).all fun p=>q p.1 p.2)))):=by
 refine qaa.go Tryz.func102 rfl Tryz.ntmps102 rfl rfl rfl (fun C hro=>?_)
 have fx:=trivial
 repeat' (first|refine stp [0,1,2,6,7,8,9,14,15,16,17,18,30] ?_|refine WP.cn (fun hc=>?_) (fun hc=>?_)|fail)
 ·refine qaf ?_
  rw [zlen _ (lenB hc)]
 have hl:=lenE hc
 have hse:=zeql (fun p:Ex×Ex=>q p.1 p.2) hl
 refine WP.loopX (α:={ k:Nat // k≤l.length∧((l.zip m).take k).all (fun p=>q p.1 p.2)=true }) (fun y=>[(1,.a (.sl (m.map Ex.at))),(2,.a (.fn fn [])),(15,.a (.sl (l.map Ex.at))),(16,.a (.v (.int .i64 (l.length:Nat)))),(17,.a (.v (.int .i64 (y.1:Nat))))]) (fun _=>[]) (fun y=>l.length-y.1) ⟨0,by omega,rfl⟩ (by simp only [qal,go_sem,simprocAttr];first|done|rfl) rfl ?_
 rintro⟨k,hk,hinv⟩
 dsimp only
 by_cases hlt:k<l.length
 ·have hlt2:decide ((k:Int)<((l.length:Nat):Int))=true:=decide_eq_true (by omega)
  obtain⟨z,hz⟩:∃z,l[k]? = some z:=⟨_,List.getElem?_eq_getElem hlt⟩
  have hzm:z∈l:=lm4 hz
  have hzt:=qag hz
  have hix:∀q2,ixD (some 4) q2 (.a (.sl (l.map Ex.at))) (.a (.v (.int .i64 (k:Int))))=some (.a (.ref (Ex.at z) 0)):=fun q2=>qar rfl (by rw [List.getElem?_map,hz];rfl) (by simp only [go_sem])
  obtain⟨v,hv⟩:∃z,m[k]? = some z:=⟨_,List.getElem?_eq_getElem (by omega)⟩
  have hvm:v∈m:=lm4 hv
  have hiy:∀q2,ixD (some 4) q2 (.a (.sl (m.map Ex.at))) (.a (.v (.int .i64 (k:Int))))=some (.a (.ref (Ex.at v) 0)):=fun q2=>qar rfl (by rw [List.getElem?_map,hv];rfl) (by simp only [go_sem])
  have hw:k<9223372036854775807:=by omega
  have hwu:=qa8 (k:=k) (by omega)
  have hzv:(l.zip m)[k]? = some (z,v):=by rw [List.getElem?_zip_eq_some];exact⟨hz,hv⟩
  replace fx:=ai12 hlt2 (ai12 hix (ai12 hiy (ai12 hwu trivial)))
  repeat' (first|refine stp [0,1,2,6,7,8,9,14,15,16,17,18,30] ?_|(refine stc (r1:=by exact hf z hzm v) (r2:=?_);refine rnx ?_)|refine WP.cn (fun hc=>?_) (fun hc=>?_)|fail)
  ·refine qaf ?_
   rw [hse,show ((l.zip m).all fun p=>q p.1 p.2)=false by rw [List.all_eq_false];exact⟨(z,v),lm4 hzv,by simpa using hc⟩]
  ·refine⟨⟨k+1,by omega,?_⟩,[.cell (Ex.at z),.cell (Ex.at v)],by dsimp only;omega,?_,rfl,rfl,rfl⟩
   ·rw [qag hzv,List.all_append,hinv];simpa using hc
   ·simp only [qal,go_sem,simprocAttr]
 obtain rfl:k=l.length:=by omega
 have hlt2:decide ((l.length:Int)<(l.length:Int))=false:=decide_eq_false (by omega)
 rw [List.take_of_length_le (by rw [List.length_zip];omega)] at hinv
 replace fx:=ai12 hlt2 trivial
 repeat' (first|refine stp [0,1,2,6,7,8,9,14,15,16,17,18,30] ?_|refine WP.cn (fun hc=>?_) (fun hc=>?_)|fail)
 exact qaf (by rw [hse,hinv])
theorem pEqlStr (l m:List (List UInt8)) (hn:l.length≤1048576):qaa Tryz.prog 51 [.a (.sl (l.map qaj)),.a (.sl (m.map qaj))] (.a (.v (.bool (l.length==m.length&&(l.zip m).all fun p=>p.1==p.2)))):=by
 refine qaa.go Tryz.func51 rfl Tryz.ntmps51 rfl rfl rfl (fun C hro=>?_)
 have fx:=trivial
 repeat' (first|refine stp [0,1,4,5,10,12,13,14,24] ?_|refine WP.cn (fun hc=>?_) (fun hc=>?_)|((first|refine WP.dw (id:=6) 9 [0,1,4,5,10,12,13,14,24] ?_);simp only [qat,List.drop_succ_cons,List.drop_zero,List.drop_nil])|fail)
 ·refine qaf ?_
  rw [zlen _ (lenB hc)]
 have hl:=lenE hc
 have hse:=zeql (fun p:(List UInt8)×(List UInt8)=>p.1==p.2) hl
 refine WP.loop (α:={ k:Nat // k≤l.length∧((l.zip m).take k).all (fun p=>p.1==p.2)=true }) (fun y=>[(0,.a (.sl (l.map qaj))),(1,.a (.sl (m.map qaj))),(12,.a (.v (.int .i64 (l.length:Nat)))),(13,.a (.v (.int .i64 (y.1:Nat))))]) (fun _=>[]) (fun y=>l.length-y.1) ⟨0,by omega,rfl⟩ (by simp only [qal,go_sem,simprocAttr];first|done|rfl) rfl ?_
 rintro⟨k,hk,hinv⟩
 dsimp only
 by_cases hlt:k<l.length
 ·have hlt2:decide ((k:Int)<((l.length:Nat):Int))=true:=decide_eq_true (by omega)
  obtain⟨z,hz⟩:∃z,l[k]? = some z:=⟨_,List.getElem?_eq_getElem hlt⟩
  have hzm:z∈l:=lm4 hz
  have hzt:=qag hz
  have hix:∀q2,ixD (some 1) q2 (.a (.sl (l.map qaj))) (.a (.v (.int .i64 (k:Int))))=some (.a (.ref (qaj z) 0)):=fun q2=>qar rfl (by rw [List.getElem?_map,hz];rfl) (by simp only [go_sem])
  obtain⟨v,hv⟩:∃z,m[k]? = some z:=⟨_,List.getElem?_eq_getElem (by omega)⟩
  have hvm:v∈m:=lm4 hv
  have hiy:∀q2,ixD (some 1) q2 (.a (.sl (m.map qaj))) (.a (.v (.int .i64 (k:Int))))=some (.a (.ref (qaj v) 0)):=fun q2=>qar rfl (by rw [List.getElem?_map,hv];rfl) (by simp only [go_sem])
  have hw:k<9223372036854775807:=by omega
  have hwu:=qa8 (k:=k) (by omega)
  have hzv:(l.zip m)[k]? = some (z,v):=by rw [List.getElem?_zip_eq_some];exact⟨hz,hv⟩
  replace fx:=ai12 hlt2 (ai12 hix (ai12 hiy (ai12 hwu trivial)))
  repeat' (first|refine stp [0,1,4,5,10,12,13,14,24] ?_|refine WP.cn (fun hc=>?_) (fun hc=>?_)|((first|refine WP.dw (id:=6) 9 [0,1,4,5,10,12,13,14,24] ?_);simp only [qat,List.drop_succ_cons,List.drop_zero,List.drop_nil])|fail)
  ·refine qaf ?_
   rw [hse,show ((l.zip m).all fun p=>p.1==p.2)=false by rw [List.all_eq_false];exact⟨(z,v),lm4 hzv,by simpa using hc⟩]
  ·refine⟨⟨k+1,by omega,?_⟩,by dsimp only;omega,?_,rfl⟩
   ·rw [qag hzv,List.all_append,hinv];simpa using hc
   ·simp only [qal,go_sem,simprocAttr]
 obtain rfl:k=l.length:=by omega
 have hlt2:decide ((l.length:Int)<(l.length:Int))=false:=decide_eq_false (by omega)
 rw [List.take_of_length_le (by rw [List.length_zip];omega)] at hinv
 replace fx:=ai12 hlt2 trivial
 repeat' (first|refine stp [0,1,4,5,10,12,13,14,24] ?_|refine WP.cn (fun hc=>?_) (fun hc=>?_)|((first|refine WP.dw (id:=6) 9 [0,1,4,5,10,12,13,14,24] ?_);simp only [qat,List.drop_succ_cons,List.drop_zero,List.drop_nil])|fail)
 exact qaf (by rw [hse,hinv])
theorem pEqlOwn (l m:List (Int×Int)) (hn:l.length≤1048576):qaa Tryz.prog 52 [.a (.sl (l.map owAt)),.a (.sl (m.map owAt))] (.a (.v (.bool (l.length==m.length&&(l.zip m).all fun p=>p.1==p.2)))):=by
 refine qaa.go Tryz.func52 rfl Tryz.ntmps52 rfl rfl rfl (fun C hro=>?_)
 have fx:=trivial
 repeat' (first|refine stp [0,1,4,5,10,12,13,14,24] ?_|refine WP.cn (fun hc=>?_) (fun hc=>?_)|((first|refine WP.dw (id:=6) 9 [0,1,4,5,10,12,13,14,24] ?_);simp only [qat,List.drop_succ_cons,List.drop_zero,List.drop_nil])|fail)
 ·refine qaf ?_
  rw [zlen _ (lenB hc)]
 have hl:=lenE hc
 have hse:=zeql (fun p:(Int×Int)×(Int×Int)=>p.1==p.2) hl
 refine WP.loop (α:={ k:Nat // k≤l.length∧((l.zip m).take k).all (fun p=>p.1==p.2)=true }) (fun y=>[(0,.a (.sl (l.map owAt))),(1,.a (.sl (m.map owAt))),(12,.a (.v (.int .i64 (l.length:Nat)))),(13,.a (.v (.int .i64 (y.1:Nat))))]) (fun _=>[]) (fun y=>l.length-y.1) ⟨0,by omega,rfl⟩ (by simp only [qal,go_sem,simprocAttr];first|done|rfl) rfl ?_
 rintro⟨k,hk,hinv⟩
 dsimp only
 by_cases hlt:k<l.length
 ·have hlt2:decide ((k:Int)<((l.length:Nat):Int))=true:=decide_eq_true (by omega)
  obtain⟨z,hz⟩:∃z,l[k]? = some z:=⟨_,List.getElem?_eq_getElem hlt⟩
  have hzm:z∈l:=lm4 hz
  have hzt:=qag hz
  have hix:∀q2,ixD (some 2) q2 (.a (.sl (l.map owAt))) (.a (.v (.int .i64 (k:Int))))=some (.a (.ref (owAt z) 0)):=fun q2=>qar rfl (by rw [List.getElem?_map,hz];rfl) (by simp only [go_sem])
  obtain⟨v,hv⟩:∃z,m[k]? = some z:=⟨_,List.getElem?_eq_getElem (by omega)⟩
  have hvm:v∈m:=lm4 hv
  have hiy:∀q2,ixD (some 2) q2 (.a (.sl (m.map owAt))) (.a (.v (.int .i64 (k:Int))))=some (.a (.ref (owAt v) 0)):=fun q2=>qar rfl (by rw [List.getElem?_map,hv];rfl) (by simp only [go_sem])
  have hw:k<9223372036854775807:=by omega
  have hwu:=qa8 (k:=k) (by omega)
  have hzv:(l.zip m)[k]? = some (z,v):=by rw [List.getElem?_zip_eq_some];exact⟨hz,hv⟩
  replace fx:=ai12 hlt2 (ai12 hix (ai12 hiy (ai12 hwu trivial)))
  repeat' (first|refine stp [0,1,4,5,10,12,13,14,24] ?_|refine WP.cn (fun hc=>?_) (fun hc=>?_)|((first|refine WP.dw (id:=6) 9 [0,1,4,5,10,12,13,14,24] ?_);simp only [qat,List.drop_succ_cons,List.drop_zero,List.drop_nil])|fail)
  ·refine qaf ?_
   rw [hse,show ((l.zip m).all fun p=>p.1==p.2)=false by rw [List.all_eq_false];exact⟨(z,v),lm4 hzv,by simpa using hc⟩]
  ·refine⟨⟨k+1,by omega,?_⟩,by dsimp only;omega,?_,rfl⟩
   ·rw [qag hzv,List.all_append,hinv];simpa using hc
   ·simp only [qal,go_sem,simprocAttr]
 obtain rfl:k=l.length:=by omega
 have hlt2:decide ((l.length:Int)<(l.length:Int))=false:=decide_eq_false (by omega)
 rw [List.take_of_length_le (by rw [List.length_zip];omega)] at hinv
 replace fx:=ai12 hlt2 trivial
 repeat' (first|refine stp [0,1,4,5,10,12,13,14,24] ?_|refine WP.cn (fun hc=>?_) (fun hc=>?_)|((first|refine WP.dw (id:=6) 9 [0,1,4,5,10,12,13,14,24] ?_);simp only [qat,List.drop_succ_cons,List.drop_zero,List.drop_nil])|fail)
 exact qaf (by rw [hse,hinv])
theorem samesX (l m:List Ex):Ex.samesB l m=(l.length==m.length&&(l.zip m).all fun p=>p.1.sameB p.2):=by
 by_cases h:l.length=m.length
 ·rw [Ex.samesB_zip h,zeql _ h]
 ·rw [Ex.samesB_len h,zlen _ h]
theorem samesS (l m:List St):St.samesB l m=(l.length==m.length&&(l.zip m).all fun p=>p.1.sameB p.2):=by
 by_cases h:l.length=m.length
 ·rw [St.samesB_zip h,zeql _ h]
 ·rw [St.samesB_len h,zlen _ h]
theorem qjk:∀(m:Nat) (e f:Ex),e.sz≤m→e.sz≤1048576→qaa Tryz.prog 99 [.r (Ex.at e),.r (Ex.at f)] (.a (.v (.bool (e.sameB f))))
 | 0,e,_,h,_=>by have:=e.sz_pos;omega
 | m+1,e,f,h,hz0=>by
  have hlen:e.kids.length≤1048576:=by have:=Ex.szs_len e.kids;have:=e.sz_eq;omega
  have IH:=pEqExpr Ex.sameB e.kids f.kids 99 hlen fun k hk y=>qjk m k y (by have:=Ex.kid_lt hk;omega) (by have:=Ex.kid_lt hk;omega)
  rw [←samesX] at IH
  have hse:=e.same_eq f
  refine qaa.go Tryz.func99 rfl Tryz.ntmps99 rfl rfl rfl (fun C hro=>?_)
  have fx:=trivial
  repeat' (first|refine stp [0,1,2,3,4] ?_|(refine stc (r1:=by exact IH) (r2:=?_);refine rnx ?_)|fail)
  refine qaf ?_
  rw [hse]
  cases (e.kind==f.kind)<;>cases (e.num==f.num)<;>cases (e.name==f.name)<;>cases Ex.samesB e.kids f.kids<;>rfl
theorem psSame:∀(m:Nat) (s t:St),s.sz≤m→s.sz≤1048576→qaa Tryz.prog 80 [.r (St.at s),.r (St.at t)] (.a (.v (.bool (s.sameB t))))
 | 0,s,_,h,_=>by have:=s.sz_pos;omega
 | m+1,s,t,h,hz0=>by
  have hse:=s.sz_eq
  have hl1:=St.szs_len s.body
  have hl2:=St.szs_len s.els
  have hl3:=Ex.szs_len s.args
  have IB:=qkm St.sameB s.body t.body 80 (by omega) fun k hk y=>psSame m k y (by have:=St.body_lt hk;omega) (by have:=St.body_lt hk;omega)
  have IE:=qkm St.sameB s.els t.els 80 (by omega) fun k hk y=>psSame m k y (by have:=St.els_lt hk;omega) (by have:=St.els_lt hk;omega)
  have IA:=pEqExpr Ex.sameB s.args t.args 99 (by omega) fun k hk y=>qjk _ k y (Nat.le_refl _) (by have:=Ex.szs_mem hk;omega)
  rw [←samesS] at IB IE
  rw [←samesX] at IA
  have hfe:=s.same_eq t
  refine qaa.go Tryz.func80 rfl Tryz.ntmps80 rfl rfl rfl (fun C hro=>?_)
  have fx:=trivial
  repeat' (first|refine stp [0,1,2,3,4,45] ?_|(refine stc (r1:=by first|exact IB|exact IE|exact IA|exact qjk _ s.e t.e (Nat.le_refl _) (by omega)) (r2:=?_);refine rnx ?_)|refine WP.cn (fun hc=>?_) (fun hc=>?_)|fail)
  all_goals
   refine qaf ?_
   rw [hfe]
   revert hc
   unfold bne
   cases (s.kind==t.kind)<;>cases (s.x==t.x)<;>cases (s.y==t.y)<;>cases (s.name==t.name)<;>cases decide (s.ty=t.ty)<;>cases s.e.sameB t.e<;>simp
  cases Ex.samesB s.args t.args<;>cases St.samesB s.body t.body<;>rfl
theorem pzVars1 (a b:Vr):qaa Tryz.prog 78 [.r (Vr.at a),.r (Vr.at b)] (.a (.v (.bool (a.sameB false b)))):=by
 refine qaa.go Tryz.func78 rfl Tryz.ntmps78 rfl rfl rfl (fun C hro=>?_)
 have fx:=trivial
 repeat' (first|refine stp [0,1,2,3,4] ?_|fail)
 refine qaf ?_
 unfold Vr.sameB
 cases (a.name==b.name)<;>cases decide (a.ty=b.ty)<;>rfl
theorem pzVars (l m:List Vr) (hn:l.length≤1048576):qaa Tryz.prog 53 [.a (.sl (l.map Vr.at)),.a (.sl (m.map Vr.at))] (.a (.v (.bool (qa4 false l m)))):=by
 refine qaa.go Tryz.func53 rfl Tryz.ntmps53 rfl rfl rfl (fun C hro=>?_)
 have fx:=trivial
 repeat' (first|refine stp [0,1,4] ?_|(refine stc (r1:=by exact pEqVar (Vr.sameB false) l m _ hn fun k _ y=>pzVars1 k y) (r2:=?_);refine rnx ?_)|fail)
 rfl
theorem pzMethod (a b:Me) (hz:a.sz≤1048576):qaa Tryz.prog 55 [.r (Me.at a),.r (Me.at b)] (.a (.v (.bool (a.likeB false b)))):=by
 obtain⟨z1,z2,z3,z4,z5,z6⟩:=Me.szH hz
 have hl1:=St.szs_len a.body
 have IB:=qkm St.sameB a.body b.body 80 (by omega) fun k hk y=>psSame _ k y (Nat.le_refl _) (by have:=St.szs_mem hk;omega)
 rw [←samesS] at IB
 refine qaa.go Tryz.func55 rfl Tryz.ntmps55 rfl rfl rfl (fun C hro=>?_)
 have fx:=trivial
 repeat' (first|refine stp [0,1,2,3,4] ?_|(refine stc (r1:=by first|exact IB|exact pzVars _ _ (by omega)) (r2:=?_);refine rnx ?_)|fail)
 refine qaf ?_
 unfold Me.likeB
 cases (a.name==b.name)<;>cases (a.pure_==b.pure_)<;>cases decide (a.ret=b.ret)<;>cases qa4 false a.params b.params<;>cases qa4 false a.locals b.locals<;>cases St.samesB a.body b.body<;>rfl
theorem pzClass (a b:Cs) (hz:a.sz≤1048576):qaa Tryz.prog 26 [.r (Cs.at a),.r (Cs.at b)] (.a (.v (.bool (a.oneB false b)))):=by
 obtain⟨z1,z2,z3,z4,z5,z6,z7,z8,z9⟩:=Cs.szH hz
 have IM:=pEqMeth (Me.likeB false) a.methods b.methods 55 (by omega) fun k hk y=>pzMethod k y (by have:=qa5 (f:=Me.sz) hk;omega)
 refine qaa.go Tryz.func26 rfl Tryz.ntmps26 rfl rfl rfl (fun C hro=>?_)
 have fx:=trivial
 repeat' (first|refine stp [0,1,2,3,4] ?_|(refine stc (r1:=by first|exact IM|exact pzVars _ _ (by omega)|exact pEqlStr _ _ (by omega)|exact pEqlOwn _ _ (by omega)) (r2:=?_);refine rnx ?_)|fail)
 refine qaf ?_
 unfold Cs.oneB
 have hc:∀x y:Nat,((x:Int) != (y:Int)) = !(x==y):=fun x y=>by
  unfold bne
  rw [show ((x:Int)==(y:Int))=(x==y) by rw [Bool.eq_iff_iff];simp;omega]
 rw [hc,hc,hc]
 cases (a.name==b.name)<;>cases (a.super==b.super)<;>cases (a.params.length==b.params.length)<;>cases (a.above.length==b.above.length)<;>cases (a.methods.length==b.methods.length)<;>cases ((a.params.zip b.params).all fun p=>p.1==p.2)<;>cases ((a.above.zip b.above).all fun p=>p.1==p.2)<;>cases ((a.methods.zip b.methods).all fun p=>p.1.likeB false p.2)<;>cases qa4 false a.fields b.fields<;>rfl
theorem pzSame (l m:List Cs) (hz:qai Cs.sz l≤1048576):qaa Tryz.prog 10 [.a (.sl (l.map Cs.at)),.a (.sl (m.map Cs.at))] (.a (.v (.bool (likeB false l m)))):=by
 have hn:=qax Cs.sz_pos l
 refine qaa.go Tryz.func10 rfl Tryz.ntmps10 rfl rfl rfl (fun C hro=>?_)
 have fx:=trivial
 repeat' (first|refine stp [0,1,4] ?_|(refine stc (r1:=by exact pEqClass (Cs.oneB false) l m _ (by omega) fun k hk y=>pzClass k y (by have:=qa5 (f:=Cs.sz) hk;omega)) (r2:=?_);refine rnx ?_)|fail)
 rfl
end Go.Proofs.YtfbopaaambkfkaaGreatDoor
