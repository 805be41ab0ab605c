/- slices.EqualFunc and Equal, on plain data. Conditions: at most 2^20 elements. -/
import Derived.Test.YthkojpnjdpbcgaaGreatDoorMl26
import Derived.Test.YthkojpnjdpbcgaaGreatDoorMl6
import Derived.Test.YthkojpnjdpbcgaaGreatDoorMl15
set_option linter.unusedVariables false
set_option maxRecDepth 100000
set_option maxHeartbeats 8000000
set_option linter.unusedSimpArgs false
namespace Go.Proofs.YthkojpnjdpbcgaaGreatDoor
open Go.RowKit
theorem pEqExpr (q:Ex→Ex→Bool) (l m:List Ex) (fn:FuncId) (hn:l.length≤1048576) (hf:∀k∈l,∀y,qaa Tryz.prog fn [.r (Ex.at k),.r (Ex.at y)] (.a (.v (.bool (q k y))))):qaa Tryz.prog 248 [.a (.sl (l.map Ex.at)),.a (.sl (m.map Ex.at)),.a (.fn fn [])] (.a (.v (.bool (l.length==m.length&&(l.zip m).all fun p=>q p.1 p.2)))):=by
 refine qaa.go Tryz.func248 rfl Tryz.ntmps248 rfl rfl rfl (fun C hro=>?_)
 have fx:=trivial
 repeat' (first|refine stp [0,1,2,6,7,8,9,14,15,16,17,18,30] ?_|refine WP.cn (fun hc=>?_) (fun hc=>?_)|fail)
 ·refine qam ?_
  rw [zlen _ (lenB hc)]
 have hl:=lenE hc
 have hse:=zeql (fun p:Ex×Ex=>q p.1 p.2) hl
 refine WP.loopX (α:={ k:Nat // k≤l.length∧((l.zip m).take k).all (fun p=>q p.1 p.2)=true }) (fun y=>[(1,.a (.sl (m.map Ex.at))),(2,.a (.fn fn [])),(15,.a (.sl (l.map Ex.at))),(16,.a (.v (.int .i64 (l.length:Nat)))),(17,.a (.v (.int .i64 (y.1:Nat))))]) (fun _=>[]) (fun y=>l.length-y.1) ⟨0,by omega,rfl⟩ (by simp only [qal,go_sem,simprocAttr];first|done|rfl) rfl ?_
 rintro⟨k,hk,hinv⟩
 dsimp only
 by_cases hlt:k<l.length
 ·have hlt2:decide ((k:Int)<((l.length:Nat):Int))=true:=decide_eq_true (by omega)
  obtain⟨z,hz⟩:∃z,l[k]? = some z:=⟨_,List.getElem?_eq_getElem hlt⟩
  have hzm:z∈l:=lm4 hz
  have hzt:=qao hz
  have hix:∀q2,ixD (some 4) q2 (.a (.sl (l.map Ex.at))) (.a (.v (.int .i64 (k:Int))))=some (.a (.ref (Ex.at z) 0)):=fun q2=>qaq rfl (by rw [List.getElem?_map,hz];rfl) (by simp only [go_sem])
  obtain⟨v,hv⟩:∃z,m[k]? = some z:=⟨_,List.getElem?_eq_getElem (by omega)⟩
  have hvm:v∈m:=lm4 hv
  have hiy:∀q2,ixD (some 4) q2 (.a (.sl (m.map Ex.at))) (.a (.v (.int .i64 (k:Int))))=some (.a (.ref (Ex.at v) 0)):=fun q2=>qaq rfl (by rw [List.getElem?_map,hv];rfl) (by simp only [go_sem])
  have hw:k<9223372036854775807:=by omega
  have hwu:=qap (k:=k) (by omega)
  have hzv:(l.zip m)[k]? = some (z,v):=by rw [List.getElem?_zip_eq_some];exact⟨hz,hv⟩
  replace fx:=ai15 hlt2 (ai15 hix (ai15 hiy (ai15 hwu trivial)))
  repeat' (first|refine stp [0,1,2,6,7,8,9,14,15,16,17,18,30] ?_|(refine stc (r1:=by exact hf z hzm v) (r2:=?_);refine rnx ?_)|refine WP.cn (fun hc=>?_) (fun hc=>?_)|fail)
  ·refine qam ?_
   rw [hse,show ((l.zip m).all fun p=>q p.1 p.2)=false by rw [List.all_eq_false];exact⟨(z,v),lm4 hzv,by simpa using hc⟩]
  ·refine⟨⟨k+1,by omega,?_⟩,[.cell (Ex.at z),.cell (Ex.at v)],by dsimp only;omega,?_,rfl,rfl,rfl⟩
   ·rw [qao hzv,List.all_append,hinv];simpa using hc
   ·simp only [qal,go_sem,simprocAttr]
 obtain rfl:k=l.length:=by omega
 have hlt2:decide ((l.length:Int)<(l.length:Int))=false:=decide_eq_false (by omega)
 rw [List.take_of_length_le (by rw [List.length_zip];omega)] at hinv
 replace fx:=ai15 hlt2 trivial
 repeat' (first|refine stp [0,1,2,6,7,8,9,14,15,16,17,18,30] ?_|fail)
 exact qam (by rw [hse,hinv])
theorem samesX (l m:List Ex):Ex.samesB l m=(l.length==m.length&&(l.zip m).all fun p=>p.1.sameB p.2):=by
 by_cases h:l.length=m.length
 ·rw [Ex.samesB_zip h,zeql _ h]
 ·rw [Ex.samesB_len h,zlen _ h]
theorem peSame:∀(m:Nat) (e f:Ex),e.sz≤m→e.sz≤1048576→qaa Tryz.prog 232 [.r (Ex.at e),.r (Ex.at f)] (.a (.v (.bool (e.sameB f))))
 | 0,e,_,h,_=>by have:=e.sz_pos;omega
 | m+1,e,f,h,hz0=>by
  have hlen:e.kids.length≤1048576:=by have:=Ex.szs_len e.kids;have:=e.sz_eq;omega
  have IH:=pEqExpr Ex.sameB e.kids f.kids 232 hlen fun k hk y=>peSame m k y (by have:=Ex.kid_lt hk;omega) (by have:=Ex.kid_lt hk;omega)
  rw [←samesX] at IH
  have hse:=e.same_eq f
  refine qaa.go Tryz.func232 rfl Tryz.ntmps232 rfl rfl rfl (fun C hro=>?_)
  have fx:=trivial
  repeat' (first|refine stp [0,1,2,3,4] ?_|(refine stc (r1:=by exact IH) (r2:=?_);refine rnx ?_)|fail)
  refine qam ?_
  rw [hse]
  cases (e.kind==f.kind)<;>cases (e.num==f.num)<;>cases (e.name==f.name)<;>cases Ex.samesB e.kids f.kids<;>rfl
theorem qdw (t:List UInt8) (h:t.length≤1000000000):qaa Tryz.prog 196 [.a (.v (.string (bs t)))] (.a (.v (.bool (qaw t)))):=by
 have:=qaa.scal (P:=Tryz.prog) (f:=196) (xs:=[.string (bs t)]) (z:=.bool (qaw t)) (qbt Tryz.func196 rfl rfl) rfl fun w hw=>by
  have:=wName_any w (bs t) h (hw w (Nat.le_refl _) fun _ _=>rfl).wd
  rw [bs_data] at this
  exact this
 exact this
theorem psNone (e:Ex) (hz:e.sz≤1048576):qaa Tryz.prog 198 [.r (Ex.at e)] (.a (.v (.bool (e.sameB Ex.zero)))):=by
 refine qaa.go Tryz.func198 rfl Tryz.ntmps198 rfl rfl rfl (fun C hro=>?_)
 have fx:=trivial
 repeat' (first|refine stp [0,1,2] ?_|(refine stc (r1:=by exact peSame _ e Ex.zero (Nat.le_refl _) hz) (r2:=?_);refine rnx ?_)|fail)
 rfl
theorem deep_kids (e:Ex) (left:Int) (h:0<left):(!e.kids.any fun k=>!decide ((k.deep:Int)≤left-1))=decide ((e.deep:Int)≤left):=by
 have hd:=e.deep_eq
 have up:∀l:List Ex,(∀x∈l,(x.deep:Int)≤left-1)→(Ex.deeps l:Int)≤left-1:=by
  intro l
  induction l with
  | nil=>intro _;rw [Ex.deeps];omega
  | cons x r ih=>intro hx;rw [Ex.deeps];have:=hx x (by simp);have:=ih fun y hy=>hx y (by simp [hy]);omega
 have dn:∀(l:List Ex) (x:Ex),x∈l→x.deep≤Ex.deeps l:=by
  intro l x
  induction l with
  | nil=>intro h;simp at h
  | cons y r ih =>
   intro h;rw [Ex.deeps]
   rcases List.mem_cons.1 h with rfl|h
   ·omega
   ·have:=ih h;omega
 by_cases hk:(e.deep:Int)≤left
 ·rw [decide_eq_true hk,Bool.not_eq_true',List.any_eq_false]
  intro x hx
  have:=dn _ _ hx
  rw [decide_eq_true (by omega)];simp
 ·rw [decide_eq_false hk,Bool.not_eq_false',List.any_eq_true]
  apply Classical.byContradiction
  intro hn
  refine hk ?_
  have:=up e.kids fun x hx=>Classical.byContradiction fun hx2=>hn ⟨x,hx,by rw [decide_eq_false hx2];rfl⟩
  omega
theorem peDeep:∀(m:Nat) (e:Ex) (left:Int),e.sz≤m→e.sz≤1048576→0≤left→left≤1048576→qaa Tryz.prog 203 [.r (Ex.at e),.a (.v (.int .i64 left))] (.a (.v (.bool (decide ((e.deep:Int)≤left)))))
 | 0,e,_,h,_,_,_=>by have:=e.sz_pos;omega
 | m+1,e,left,h,hz0,h0,h1=>by
  have hlen:e.kids.length≤1048576:=by have:=Ex.szs_len e.kids;have:=e.sz_eq;omega
  have hd:=e.deep_eq
  by_cases hl:left=0
  ·subst hl
   refine qaa.go Tryz.func203 rfl Tryz.ntmps203 rfl rfl rfl (fun C hro=>?_)
   have fx:=trivial
   repeat' (first|refine WP.seq ?_|(refine WP.reg [0,1,2,3,4,6] (by kernel_rfl) (by kernel_rfl) ?_;refine RS.run2 (by simp only [go_sem,simprocAttr,qab,beq_self_eq_true];rfl) ?_;simp only [qai])|(refine RS.finT (by simp only [go_sem,simprocAttr];rfl) ?_)|((refine WP.cond rfl (by simp only [go_sem,simprocAttr,qab,beq_self_eq_true];rfl) (fun hc=>?_) (fun hc=>?_))<;>try exact Bool.noConfusion hc)|(refine WP.ret ?_;(try simp only [qbc,qa0]);refine ret1 rfl (by simp only [go_sem,simprocAttr,qab,beq_self_eq_true];rfl) (by simp only [go_sem,qab,beq_self_eq_true]) ?_)|fail)
   refine qam ?_
   rw [eq_comm,decide_eq_false_iff_not];omega
  ·have hlb:(left==0)=false:=by simpa using hl
   have hwl:IntKind.i64.wrap (left-1)=left-1:=qbk (by omega) (by omega)
   have IH:∀k∈e.kids,qaa Tryz.prog 203 [.r (Ex.at k),.a (.v (.int .i64 (left-1)))] (.a (.v (.bool (decide ((k.deep:Int)≤left-1))))):=fun k hk=>peDeep m k _ (by have:=Ex.kid_lt hk;omega) (by have:=Ex.kid_lt hk;omega) (by omega) (by omega)
   have I1:∀k∈e.kids,qaa Tryz.prog 234 [.r (Ex.at k),.a (.ref [.v (.int .i64 left)] 0)] (.a (.v (.bool (!decide ((k.deep:Int)≤left-1))))):=fun k hk=>by
    have:=IH k hk
    refine qaa.go Tryz.func234 rfl Tryz.ntmps234 rfl rfl rfl (fun C hro=>?_)
    have fx:=trivial
    replace fx:=ai15 hwl trivial
    repeat' (first|refine stp [0,1,2,3] ?_|(refine stc (r1:=by exact this) (r2:=?_);refine rnx ?_)|fail)
    rfl
   refine qaa.go Tryz.func203 rfl Tryz.ntmps203 rfl rfl rfl (fun C hro=>?_)
   have fx:=trivial
   replace fx:=ai15 hlb trivial
   repeat' (first|refine stp [0,1,2,3,4,6] ?_|(refine stc (r1:=by exact qls (fun k=>!decide ((k.deep:Int)≤left-1)) e.kids 234 [.ref [.v (.int .i64 left)] 0] rfl hlen I1) (r2:=?_);refine rnx ?_)|fail)
   exact qam (deep_kids e left (by omega))
def qlw (k:Int):Int:=if k=1∨k=2∨k=3∨k=4∨k=5 then 0 else if k=12∨k=13 then 1 else if k=6∨k=7∨k=8∨k=9∨k=10∨k=11∨k=14 then 2 else -1
theorem peKids (k:Int):qaa Tryz.prog 237 [.a (.v (.int .i64 k))] (.a (.v (.int .i64 (qlw k)))):=by
 by_cases hin:1≤k∧k≤14
 ·have:k=1∨k=2∨k=3∨k=4∨k=5∨k=6∨k=7∨k=8∨k=9∨k=10∨k=11∨k=12∨k=13∨k=14:=by omega
  clear hin
  rcases this with rfl|rfl|rfl|rfl|rfl|rfl|rfl|rfl|rfl|rfl|rfl|rfl|rfl|rfl
  all_goals
   refine qaa.go Tryz.func237 rfl Tryz.ntmps237 rfl rfl rfl (fun C hro=>?_)
   have fx:=trivial
   repeat' (first|refine stp [0,2,3,4,10,13] ?_|fail)
   rfl
 ·have h1:=beqF (show k≠1 by omega)
  have h2:=beqF (show k≠2 by omega)
  have h3:=beqF (show k≠3 by omega)
  have h4:=beqF (show k≠4 by omega)
  have h5:=beqF (show k≠5 by omega)
  have h6:=beqF (show k≠6 by omega)
  have h7:=beqF (show k≠7 by omega)
  have h8:=beqF (show k≠8 by omega)
  have h9:=beqF (show k≠9 by omega)
  have h10:=beqF (show k≠10 by omega)
  have h11:=beqF (show k≠11 by omega)
  have h12:=beqF (show k≠12 by omega)
  have h13:=beqF (show k≠13 by omega)
  have h14:=beqF (show k≠14 by omega)
  refine qaa.go Tryz.func237 rfl Tryz.ntmps237 rfl rfl rfl (fun C hro=>?_)
  have fx:=trivial
  replace fx:=ai15 h1 (ai15 h2 (ai15 h3 (ai15 h4 (ai15 h5 (ai15 h6 (ai15 h7 (ai15 h8 (ai15 h9 (ai15 h10 (ai15 h11 (ai15 h12 (ai15 h13 (ai15 h14 trivial)))))))))))))
  repeat' (first|refine stp [0,2,3,4,10,13] ?_|fail)
  refine qco ?_
  unfold qlw
  rw [if_neg (by omega),if_neg (by omega),if_neg (by omega)]
def hasP (k:Int):Int:=if k=1 then 33 else if k=2 then 15 else if k=3 then 46 else if k=4 then 591 else if k=5 then 17 else if k=6 then 49 else if k=7 then 3 else if k=8 then 2 else if k=9 then 416 else if k=10 then 160 else if k=11 then 32 else 0
theorem psHas (k:Int):qaa Tryz.prog 150 [.a (.v (.int .i64 k))] (.a (.v (.int .i64 (hasP k)))):=by
 by_cases hin:1≤k∧k≤11
 ·have:k=1∨k=2∨k=3∨k=4∨k=5∨k=6∨k=7∨k=8∨k=9∨k=10∨k=11:=by omega
  clear hin
  rcases this with rfl|rfl|rfl|rfl|rfl|rfl|rfl|rfl|rfl|rfl|rfl
  all_goals
   refine qaa.go Tryz.func150 rfl Tryz.ntmps150 rfl rfl rfl (fun C hro=>?_)
   have fx:=trivial
   repeat' (first|refine stp [0,2,3,4,6,8,10,12,14,16,18,20,22,24] ?_|fail)
   rfl
 ·have h1:=beqF (show k≠1 by omega)
  have h2:=beqF (show k≠2 by omega)
  have h3:=beqF (show k≠3 by omega)
  have h4:=beqF (show k≠4 by omega)
  have h5:=beqF (show k≠5 by omega)
  have h6:=beqF (show k≠6 by omega)
  have h7:=beqF (show k≠7 by omega)
  have h8:=beqF (show k≠8 by omega)
  have h9:=beqF (show k≠9 by omega)
  have h10:=beqF (show k≠10 by omega)
  have h11:=beqF (show k≠11 by omega)
  refine qaa.go Tryz.func150 rfl Tryz.ntmps150 rfl rfl rfl (fun C hro=>?_)
  have fx:=trivial
  replace fx:=ai15 h1 (ai15 h2 (ai15 h3 (ai15 h4 (ai15 h5 (ai15 h6 (ai15 h7 (ai15 h8 (ai15 h9 (ai15 h10 (ai15 h11 trivial))))))))))
  repeat' (first|refine stp [0,2,3,4,6,8,10,12,14,16,18,20,22,24] ?_|fail)
  refine qco ?_
  unfold hasP
  rw [if_neg (by omega),if_neg (by omega),if_neg (by omega),if_neg (by omega),if_neg (by omega),if_neg (by omega),if_neg (by omega),if_neg (by omega),if_neg (by omega),if_neg (by omega),if_neg (by omega)]
def bitP (h m:Int):Int:=IntKind.i64.wrap (BitVec.ofInt IntKind.i64.bits h &&& BitVec.ofInt IntKind.i64.bits m).toNat
theorem qje (o:Int×Int) (p:Int):qaa Tryz.prog 231 [.r (owAt o),.a (.v (.int .i64 p))] (.a (.v (.bool (owB o p)))):=by
 obtain⟨k,n⟩:=o
 by_cases hin:1≤k∧k≤7
 ·have:k=1∨k=2∨k=3∨k=4∨k=5∨k=6∨k=7:=by omega
  clear hin
  rcases this with rfl|rfl|rfl|rfl|rfl|rfl|rfl
  all_goals
   refine qaa.go Tryz.func231 rfl Tryz.ntmps231 rfl rfl rfl (fun C hro=>?_)
   have fx:=trivial
   repeat' (first|refine stp [0,1,2,4,6,7,9,11,13,15] ?_|fail)
   refine qam ?_
   simp [owB]
 ·have h1:=beqF (show k≠1 by omega)
  have h2:=beqF (show k≠2 by omega)
  have h3:=beqF (show k≠3 by omega)
  have h4:=beqF (show k≠4 by omega)
  have h5:=beqF (show k≠5 by omega)
  have h6:=beqF (show k≠6 by omega)
  have h7:=beqF (show k≠7 by omega)
  refine qaa.go Tryz.func231 rfl Tryz.ntmps231 rfl rfl rfl (fun C hro=>?_)
  have fx:=trivial
  replace fx:=ai15 h1 (ai15 h2 (ai15 h3 (ai15 h4 (ai15 h5 (ai15 h6 (ai15 h7 trivial))))))
  repeat' (first|refine stp [0,1,2,4,6,7,9,11,13,15] ?_|fail)
  refine qam ?_
  unfold owB
  rw [if_neg (by dsimp only;omega),if_neg (by dsimp only;omega)]
  dsimp only
  rw [h1,h2,h4,h5,h6];rfl
end Go.Proofs.YthkojpnjdpbcgaaGreatDoor
