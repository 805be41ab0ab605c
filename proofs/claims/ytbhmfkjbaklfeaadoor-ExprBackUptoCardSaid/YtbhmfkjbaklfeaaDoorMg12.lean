/- The document's statements on plain data. Conditions: at most 2^20 of anything. -/
import Derived.Test.YtbhmfkjbaklfeaaDoorMg10
import Derived.Test.YtbhmfkjbaklfeaaDoorMg11
import Derived.Test.YtbhmfkjbaklfeaaDoorMg6
set_option linter.unusedVariables false
set_option maxRecDepth 100000
set_option maxHeartbeats 8000000
set_option linter.unusedSimpArgs false
namespace Go.Proofs.YtbhmfkjbaklfeaaDoor
open Go.RowKit
theorem beqF {k c:Int} (h:k≠c):(k==c)=false:=by simpa using h
theorem zlen {α:Type} {l m:List α} (q:α×α→Bool) (h:l.length≠m.length):(l.length==m.length&&(l.zip m).all q)=false:=by
 rw [show (l.length==m.length)=false by simpa using h];rfl
theorem zeql {α:Type} {l m:List α} (q:α×α→Bool) (h:l.length=m.length):(l.length==m.length&&(l.zip m).all q)=(l.zip m).all q:=by
 rw [show (l.length==m.length)=true by simpa using h];rfl
theorem lenB {a b:Nat} (hc:((a:Int) != (b:Int))=true):a≠b:=by rintro rfl;simp at hc
theorem lenE {a b:Nat} (hc:((a:Int) != (b:Int))=false):a=b:=by simp only [bne_eq_false_iff_eq] at hc;omega
theorem pEqExpr (q:Ex→Ex→Bool) (l m:List Ex) (fn:FuncId) (hn:l.length≤1048576) (hf:∀k∈l,∀y,DPure Tryd.prog fn [.r (Ex.at k),.r (Ex.at y)] (.a (.v (.bool (q k y))))):DPure Tryd.prog 18 [.a (.sl (l.map Ex.at)),.a (.sl (m.map Ex.at)),.a (.fn fn [])] (.a (.v (.bool (l.length==m.length&&(l.zip m).all fun p=>q p.1 p.2)))):=by
 refine DPure.go Tryd.func18 rfl Tryd.ntmps18 rfl rfl rfl (fun C hro=>?_)
 have fx:=trivial
 repeat' (first|refine stp [0,1,2,6,7,8,9,14,15,16,17,18,30] ?_|refine WP.cn (fun hc=>?_) (fun hc=>?_)|fail)
 ·refine bool_eq ?_
  rw [zlen _ (lenB hc)]
 have hl:=lenE hc
 have hse:=zeql (fun p:Ex×Ex=>q p.1 p.2) hl
 refine WP.loopX (α:={ k:Nat // k≤l.length∧((l.zip m).take k).all (fun p=>q p.1 p.2)=true }) (fun y=>[(1,.a (.sl (m.map Ex.at))),(2,.a (.fn fn [])),(15,.a (.sl (l.map Ex.at))),(16,.a (.v (.int .i64 (l.length:Nat)))),(17,.a (.v (.int .i64 (y.1:Nat))))]) (fun _=>[]) (fun y=>l.length-y.1) ⟨0,by omega,rfl⟩ (by simp only [Agree,go_sem,simprocAttr];first|done|rfl) rfl ?_
 rintro⟨k,hk,hinv⟩
 dsimp only
 by_cases hlt:k<l.length
 ·have hlt2:decide ((k:Int)<((l.length:Nat):Int))=true:=decide_eq_true (by omega)
  obtain⟨z,hz⟩:∃z,l[k]? = some z:=⟨_,List.getElem?_eq_getElem hlt⟩
  have hzm:z∈l:=List.mem_of_getElem? hz
  have hzt:=take_snocA hz
  have hix:∀q2,ixD (some 4) q2 (.a (.sl (l.map Ex.at))) (.a (.v (.int .i64 (k:Int))))=some (.a (.ref (Ex.at z) 0)):=fun q2=>ixD_at rfl (by rw [List.getElem?_map,hz];rfl) (by simp only [go_sem])
  obtain⟨v,hv⟩:∃z,m[k]? = some z:=⟨_,List.getElem?_eq_getElem (by omega)⟩
  have hvm:v∈m:=List.mem_of_getElem? hv
  have hiy:∀q2,ixD (some 4) q2 (.a (.sl (m.map Ex.at))) (.a (.v (.int .i64 (k:Int))))=some (.a (.ref (Ex.at v) 0)):=fun q2=>ixD_at rfl (by rw [List.getElem?_map,hv];rfl) (by simp only [go_sem])
  have hw:k<9223372036854775807:=by omega
  have hwu:=wrap64n (k:=k) (by omega)
  have hzv:(l.zip m)[k]? = some (z,v):=by rw [List.getElem?_zip_eq_some];exact⟨hz,hv⟩
  replace fx:=And.intro hlt2 (And.intro hix (And.intro hiy (And.intro hwu trivial)))
  repeat' (first|refine stp [0,1,2,6,7,8,9,14,15,16,17,18,30] ?_|(refine stc (r1:=by exact hf z hzm v) (r2:=?_);refine rnx ?_)|refine WP.cn (fun hc=>?_) (fun hc=>?_)|fail)
  ·refine bool_eq ?_
   rw [hse,show ((l.zip m).all fun p=>q p.1 p.2)=false by rw [List.all_eq_false];exact⟨(z,v),List.mem_of_getElem? hzv,by simpa using hc⟩]
  ·refine⟨⟨k+1,by omega,?_⟩,[.cell (Ex.at z),.cell (Ex.at v)],by dsimp only;omega,?_,rfl,rfl,rfl⟩
   ·rw [take_snocA hzv,List.all_append,hinv];simpa using hc
   ·simp only [Agree,go_sem,simprocAttr]
 obtain rfl:k=l.length:=by omega
 have hlt2:decide ((l.length:Int)<(l.length:Int))=false:=decide_eq_false (by omega)
 rw [List.take_of_length_le (by rw [List.length_zip];omega)] at hinv
 replace fx:=And.intro hlt2 trivial
 repeat' (first|refine stp [0,1,2,6,7,8,9,14,15,16,17,18,30] ?_|refine WP.cn (fun hc=>?_) (fun hc=>?_)|fail)
 exact bool_eq (by rw [hse,hinv])
theorem samesX (l m:List Ex):Ex.samesB l m=(l.length==m.length&&(l.zip m).all fun p=>p.1.sameB p.2):=by
 by_cases h:l.length=m.length
 ·rw [Ex.samesB_zip h,zeql _ h]
 ·rw [Ex.samesB_len h,zlen _ h]
theorem peSame:∀(m:Nat) (e f:Ex),e.sz≤m→e.sz≤1048576→DPure Tryd.prog 9 [.r (Ex.at e),.r (Ex.at f)] (.a (.v (.bool (e.sameB f))))
 | 0,e,_,h,_=>by have:=e.sz_pos;omega
 | m+1,e,f,h,hz0=>by
  have hlen:e.kids.length≤1048576:=by have:=Ex.szs_len e.kids;have:=e.sz_eq;omega
  have IH:=pEqExpr Ex.sameB e.kids f.kids 9 hlen fun k hk y=>peSame m k y (by have:=Ex.kid_lt hk;omega) (by have:=Ex.kid_lt hk;omega)
  rw [←samesX] at IH
  have hse:=e.same_eq f
  refine DPure.go Tryd.func9 rfl Tryd.ntmps9 rfl rfl rfl (fun C hro=>?_)
  have fx:=trivial
  repeat' (first|refine stp [0,1,2,3,4] ?_|(refine stc (r1:=by exact IH) (r2:=?_);refine rnx ?_)|fail)
  refine bool_eq ?_
  rw [hse]
  cases (e.kind==f.kind)<;>cases (e.num==f.num)<;>cases (e.name==f.name)<;>cases Ex.samesB e.kids f.kids<;>rfl
end Go.Proofs.YtbhmfkjbaklfeaaDoor
