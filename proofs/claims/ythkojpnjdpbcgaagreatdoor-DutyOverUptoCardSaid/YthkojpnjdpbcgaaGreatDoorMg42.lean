/- How great a program is: plain answers. No program in sight. Conditions: none. -/
import Derived.Test.YthkojpnjdpbcgaaGreatDoorMg32
set_option linter.unusedVariables false
set_option maxRecDepth 100000
set_option maxHeartbeats 8000000
set_option linter.unusedSimpArgs false
namespace Go.Proofs.YthkojpnjdpbcgaaGreatDoor
theorem ai42 {a b : Prop} (x : a) (y : b) : a ∧ b := ⟨x, y⟩
open Go.RowKit
def maxOf {α:Type} (f:α→Nat):List α→Nat
 | []=>0
 | x::r=>max (f x) (maxOf f r)
def Me.deep (m:Me):Nat:=St.deeps m.body
def Cs.deep (c:Cs):Nat:=maxOf Me.deep c.methods
/-! Too great to be looked at? -/
mutual
def Ex.kidsB (left:Int):Ex→Bool
 | ⟨_,_,_,l⟩=>(decide (left<0)||decide ((l.length:Int)>4))||Ex.kidssB (left-1) l
def Ex.kidssB (left:Int):List Ex→Bool
 | []=>false
 | e::r=>e.kidsB left||Ex.kidssB left r
end
theorem Ex.kids_eq (left:Int) (e:Ex):e.kidsB left=((decide (left<0)||decide ((e.kids.length:Int)>4))||Ex.kidssB (left-1) e.kids):=by cases e;rfl
theorem Ex.kidssB_any (left:Int) (l:List Ex):Ex.kidssB left l=l.any (Ex.kidsB left):=by
 induction l with
 | nil=>rw [kidssB];rfl
 | cons e r ih=>rw [kidssB,ih];rfl
mutual
def St.muchB (left:Int):St→Bool
 | ⟨_,_,_,_,_,e,args,body,els,_⟩=>(decide (left<0)||decide ((body.length:Int)>500)||decide ((els.length:Int)>500)||decide ((args.length:Int)>20)||e.kidsB 25)||(args.any (Ex.kidsB 25)||(St.muchsB (left-1) body||St.muchsB (left-1) els))
def St.muchsB (left:Int):List St→Bool
 | []=>false
 | e::r=>e.muchB left||St.muchsB left r
end
theorem St.much_eq (left:Int) (s:St):s.muchB left=((decide (left<0)||decide ((s.body.length:Int)>500)||decide ((s.els.length:Int)>500)||decide ((s.args.length:Int)>20)||s.e.kidsB 25)||(s.args.any (Ex.kidsB 25)||(St.muchsB (left-1) s.body||St.muchsB (left-1) s.els))):=by cases s;rfl
theorem St.muchsB_any (left:Int) (l:List St):St.muchsB left l=l.any (St.muchB left):=by
 induction l with
 | nil=>rw [muchsB];rfl
 | cons e r ih=>rw [muchsB,ih];rfl
def uniq (v:Vr):Nat:=if v.ty.o0.1==6 then 1 else 0
def Me.uniques (m:Me):Nat:=qah uniq m.params+qah uniq m.locals
theorem qi8 (l:List Vr):qah uniq l≤l.length:=by
 induction l with
 | nil=>exact Nat.le_refl _
 | cons e r ih =>
  rw [qah,List.length_cons]
  have:uniq e≤1:=by unfold uniq;split<;>omega
  omega
def qbp (n:Nat):List St→Option Nat
 | []=>some n
 | s::r=>bif decide ((n:Int)>500)||s.muchB 25 then none else qbp (n+s.cnt) r
def hvMe (n:Nat):List Me→Option Nat
 | []=>some n
 | m::r=>bif decide ((m.params.length:Int)>40)||decide ((m.locals.length:Int)>40)||decide ((m.body.length:Int)>500)||decide ((m.uniques:Int)>8) then none else (qbp n m.body).bind fun k=>hvMe k r
def hvCs (top:Nat) (n:Nat):List Cs→Option Nat
 | []=>some n
 | c::r=>bif decide ((top:Int)>30)||decide ((c.params.length:Int)>20)||decide ((c.above.length:Int)>20)||decide ((c.fields.length:Int)>40)||decide ((c.methods.length:Int)>40) then none else (hvMe n c.methods).bind fun k=>hvCs top k r
def qld (l:List Cs):Bool:=match hvCs l.length 0 l with
 | none=>true
 | some n=>decide ((n:Int)>500)
theorem qfs:∀(l:List St) (n:Nat) (m:List St),qbp n (l++m)=(qbp n l).bind fun k=>qbp k m
 | [],n,m=>rfl
 | s::r,n,m=>by
  rw [List.cons_append,qbp,qbp]
  cases decide ((n:Int)>500)||s.muchB 25
  ·simp only [cond_false];exact qfs r _ m
  ·rfl
theorem qj1:∀(l:List Me) (n:Nat) (m:List Me),hvMe n (l++m)=(hvMe n l).bind fun k=>hvMe k m
 | [],n,m=>rfl
 | s::r,n,m=>by
  rw [List.cons_append,hvMe,hvMe]
  cases decide ((s.params.length:Int)>40)||decide ((s.locals.length:Int)>40)||decide ((s.body.length:Int)>500)||decide ((s.uniques:Int)>8)
  ·simp only [cond_false]
   cases qbp n s.body with
   | none=>rfl
   | some k=>exact qj1 r k m
  ·rfl
theorem qj2 (t:Nat):∀(l:List Cs) (n:Nat) (m:List Cs),hvCs t n (l++m)=(hvCs t n l).bind fun k=>hvCs t k m
 | [],n,m=>rfl
 | s::r,n,m=>by
  rw [List.cons_append,hvCs,hvCs]
  cases decide ((t:Int)>30)||decide ((s.params.length:Int)>20)||decide ((s.above.length:Int)>20)||decide ((s.fields.length:Int)>40)||decide ((s.methods.length:Int)>40)
  ·simp only [cond_false]
   cases hvMe n s.methods with
   | none=>rfl
   | some k=>exact qj2 t r k m
  ·rfl
theorem qhl:∀(l:List St) (n k:Nat),qbp n l=some k→k=n+St.cnts l
 | [],n,k,h=>by injection h with h;rw [St.cnts];omega
 | s::r,n,k,h=>by
  rw [qbp] at h
  cases hc:decide ((n:Int)>500)||s.muchB 25<;>rw [hc] at h
  ·have:=qhl r _ _ h;rw [St.cnts];omega
  ·cases h
theorem qml:∀(l:List Me) (n k:Nat),hvMe n l=some k→k=n+qah (fun m:Me=>St.cnts m.body) l
 | [],n,k,h=>by injection h with h;rw [qah];omega
 | s::r,n,k,h=>by
  rw [hvMe] at h
  cases hc:decide ((s.params.length:Int)>40)||decide ((s.locals.length:Int)>40)||decide ((s.body.length:Int)>500)||decide ((s.uniques:Int)>8)<;>rw [hc] at h
  ·simp only [cond_false,Option.bind_eq_some_iff] at h
   obtain⟨k1,h1,h2⟩:=h
   have:=qhl _ _ _ h1;have:=qml r _ _ h2;rw [qah];omega
  ·cases h
theorem hvCs_le (t:Nat):∀(l:List Cs) (n k:Nat),hvCs t n l=some k→k=n+qah Cs.stmts l
 | [],n,k,h=>by injection h with h;rw [qah];omega
 | s::r,n,k,h=>by
  rw [hvCs] at h
  cases hc:decide ((t:Int)>30)||decide ((s.params.length:Int)>20)||decide ((s.above.length:Int)>20)||decide ((s.fields.length:Int)>40)||decide ((s.methods.length:Int)>40)<;>rw [hc] at h
  ·simp only [cond_false,Option.bind_eq_some_iff] at h
   obtain⟨k1,h1,h2⟩:=h
   have h3:=qml _ _ _ h1;have:=hvCs_le t r _ _ h2;rw [qah];unfold Cs.stmts;unfold Cs.stmts at this;omega
  ·cases h
theorem w64 {a b c:Nat} (h:a+b=c) (hc:c≤4000000):IntKind.i64.wrap ((a:Int)+(b:Int))=(c:Int):=by rw [qia (by omega) (by omega)];omega
theorem pKidsB:∀(m:Nat) (e:Ex) (left:Int),e.sz≤m→e.sz≤1048576→left≤25→qab Tryz.prog 45 [.r (Ex.at e),.a (.v (.int .i64 left))] (.a (.v (.bool (e.kidsB left))))
 | 0,e,_,h,_,_=>by have:=e.sz_pos;omega
 | m+1,e,left,h,hz0,hL=>by
  have IH:∀k∈e.kids,qab Tryz.prog 45 [.r (Ex.at k),.a (.v (.int .i64 (left-1)))] (.a (.v (.bool (k.kidsB (left-1))))):=fun k hk=>pKidsB m k _ (by have:=Ex.kid_lt hk;omega) (by have:=Ex.kid_lt hk;omega) (by omega)
  have hll:=Ex.szs_len e.kids
  have hse:=e.sz_eq
  have hfe:=e.kids_eq left
  rw [Ex.kidssB_any] at hfe
  refine qab.go Tryz.func45 rfl Tryz.ntmps45 rfl rfl rfl (fun C hro=>?_)
  have fx:=trivial
  repeat' (first|refine stp [0,1,2,4,5,13,18,28] ?_|refine WP.cn (fun hc=>?_) (fun hc=>?_)|fail)
  ·refine qbb ?_
   rw [hfe,hc];rfl
  rw [hc,Bool.false_or] at hfe
  have hl0:0≤left:=by simp only [Bool.or_eq_false_iff,decide_eq_false_iff_not] at hc;omega
  have hwl:IntKind.i64.wrap (left-1)=left-1:=qia (by omega) (by omega)
  refine WP.loop (α:={ k:Nat // k≤(e.kids).length∧((e.kids).take k).any ((Ex.kidsB (left-1)))=false }) (fun y=>[(1,.a (.v (.int .i64 left))),(2,.a (.ptr 0 0)),(5,.a (.v (.int .i64 y.1)))]) (fun _=>[.cell (Ex.at e)]) (fun y=>(e.kids).length-y.1) ⟨0,by omega,rfl⟩ (by simp only [qai,go_sem,simprocAttr]) rfl ?_
  rintro⟨k,hk,hinv⟩
  dsimp only
  by_cases hlt:k<(e.kids).length
  ·have hlt2:decide ((k:Int)<(((e.kids).length:Nat):Int))=true:=decide_eq_true (by omega)
   obtain⟨z,hz⟩:∃z,(e.kids)[k]? = some z:=⟨_,List.getElem?_eq_getElem hlt⟩
   have hzm:z∈(e.kids):=lm4 hz
   have hzt:=qak hz
   have hix:∀q2,ixD (some 4) q2 (.a (.sl ((e.kids).map Ex.at))) (.a (.v (.int .i64 (k:Int))))=some (.a (.ref (Ex.at z) 0)):=fun q2=>qaw rfl (by rw [List.getElem?_map,hz];rfl) (by simp only [go_sem])
   have hw:k<9223372036854775807:=by omega
   skip
   replace fx:=ai42 hlt2 (ai42 hix (ai42 hw (ai42 hwl trivial)))
   repeat' (first|refine stp [0,1,2,4,5,13,18,28] ?_|(refine stc (r1:=by exact IH _ hzm) (r2:=?_);refine rnx ?_)|refine WP.cn (fun hc=>?_) (fun hc=>?_)|fail)
   ·refine qbb ?_
    rw [hfe,show (e.kids).any ((Ex.kidsB (left-1)))=true by rw [List.any_eq_true];exact⟨z,hzm,by simpa using hc⟩]
   ·refine⟨⟨k+1,by omega,by rw [hzt,List.any_append,hinv];simpa using hc⟩,by dsimp only;omega,?_,rfl⟩
    simp only [qai,go_sem,simprocAttr]
  obtain rfl:k=(e.kids).length:=by omega
  rw [List.take_length] at hinv
  have hlt2:decide (((e.kids).length:Int)<((e.kids).length:Int))=false:=decide_eq_false (by omega)
  replace fx:=ai42 hlt2 trivial
  repeat' (first|refine stp [0,1,2,4,5,13,18,28] ?_|refine WP.cn (fun hc=>?_) (fun hc=>?_)|fail)
  exact qbb (by rw [hfe,hinv])
theorem pMuch:∀(m:Nat) (s:St) (left:Int),s.sz≤m→s.sz≤1048576→left≤25→qab Tryz.prog 17 [.r (St.at s),.a (.v (.int .i64 left))] (.a (.v (.bool (s.muchB left))))
 | 0,s,_,h,_,_=>by have:=s.sz_pos;omega
 | m+1,s,left,h,hz0,hL=>by
  have IB:∀k∈s.body,qab Tryz.prog 17 [.r (St.at k),.a (.v (.int .i64 (left-1)))] (.a (.v (.bool (k.muchB (left-1))))):=fun k hk=>pMuch m k _ (by have:=St.body_lt hk;omega) (by have:=St.body_lt hk;omega) (by omega)
  have IE:∀k∈s.els,qab Tryz.prog 17 [.r (St.at k),.a (.v (.int .i64 (left-1)))] (.a (.v (.bool (k.muchB (left-1))))):=fun k hk=>pMuch m k _ (by have:=St.els_lt hk;omega) (by have:=St.els_lt hk;omega) (by omega)
  have hse:=s.sz_eq
  have hl1:=St.szs_len s.body
  have hl2:=St.szs_len s.els
  have hl3:=Ex.szs_len s.args
  have hfe:=s.much_eq left
  rw [St.muchsB_any,St.muchsB_any] at hfe
  refine qab.go Tryz.func17 rfl Tryz.ntmps17 rfl rfl rfl (fun C hro=>?_)
  have fx:=trivial
  repeat' (first|refine stp [0,1,2,4,5,6,7,32,37,45,50,60,65,75] ?_|(refine stc (r1:=by exact pKidsB _ s.e 25 (Nat.le_refl _) (by omega) (by omega)) (r2:=?_);refine rnx ?_)|refine WP.cn (fun hc=>?_) (fun hc=>?_)|fail)
  ·refine qbb ?_
   rw [hfe,hc];rfl
  rw [hc,Bool.false_or] at hfe
  have hl0:0≤left:=by simp only [Bool.or_eq_false_iff,decide_eq_false_iff_not] at hc;omega
  have hwl:IntKind.i64.wrap (left-1)=left-1:=qia (by omega) (by omega)
  refine WP.loop (α:={ k:Nat // k≤(s.args).length∧((s.args).take k).any ((Ex.kidsB 25))=false }) (fun y=>[(1,.a (.v (.int .i64 left))),(2,.a (.ptr 0 0)),(5,.a (.v (.int .i64 y.1)))]) (fun _=>[.cell (St.at s)]) (fun y=>(s.args).length-y.1) ⟨0,by omega,rfl⟩ (by simp only [qai,go_sem,simprocAttr]) rfl ?_
  rintro⟨k,hk,hinv⟩
  dsimp only
  by_cases hlt:k<(s.args).length
  ·have hlt2:decide ((k:Int)<(((s.args).length:Nat):Int))=true:=decide_eq_true (by omega)
   obtain⟨z,hz⟩:∃z,(s.args)[k]? = some z:=⟨_,List.getElem?_eq_getElem hlt⟩
   have hzm:z∈(s.args):=lm4 hz
   have hzt:=qak hz
   have hix:∀q2,ixD (some 4) q2 (.a (.sl ((s.args).map Ex.at))) (.a (.v (.int .i64 (k:Int))))=some (.a (.ref (Ex.at z) 0)):=fun q2=>qaw rfl (by rw [List.getElem?_map,hz];rfl) (by simp only [go_sem])
   have hw:k<9223372036854775807:=by omega
   skip
   replace fx:=ai42 hlt2 (ai42 hix (ai42 hw (ai42 hwl trivial)))
   repeat' (first|refine stp [0,1,2,4,5,6,7,32,37,45,50,60,65,75] ?_|(refine stc (r1:=by exact pKidsB _ z 25 (Nat.le_refl _) (by have:=Ex.szs_mem hzm;omega) (by omega)) (r2:=?_);refine rnx ?_)|refine WP.cn (fun hc=>?_) (fun hc=>?_)|fail)
   ·refine qbb ?_
    rw [hfe,show (s.args).any ((Ex.kidsB 25))=true by rw [List.any_eq_true];exact⟨z,hzm,by simpa using hc⟩];rfl
   ·refine⟨⟨k+1,by omega,by rw [hzt,List.any_append,hinv];simpa using hc⟩,by dsimp only;omega,?_,rfl⟩
    simp only [qai,go_sem,simprocAttr]
  obtain rfl:k=(s.args).length:=by omega
  rw [List.take_length] at hinv
  have hlt2:decide (((s.args).length:Int)<((s.args).length:Int))=false:=decide_eq_false (by omega)
  rw [hinv,Bool.false_or] at hfe
  replace fx:=ai42 hlt2 trivial
  repeat' (first|refine stp [0,1,2,4,5,6,7,32,37,45,50,60,65,75] ?_|refine WP.cn (fun hc=>?_) (fun hc=>?_)|fail)
  refine WP.loop (α:={ k:Nat // k≤(s.body).length∧((s.body).take k).any ((St.muchB (left-1)))=false }) (fun y=>[(1,.a (.v (.int .i64 left))),(2,.a (.ptr 0 0)),(6,.a (.v (.int .i64 y.1)))]) (fun _=>[.cell (St.at s)]) (fun y=>(s.body).length-y.1) ⟨0,by omega,rfl⟩ (by simp only [qai,go_sem,simprocAttr]) rfl ?_
  rintro⟨k,hk,hinv⟩
  dsimp only
  by_cases hlt:k<(s.body).length
  ·have hlt2:decide ((k:Int)<(((s.body).length:Nat):Int))=true:=decide_eq_true (by omega)
   obtain⟨z,hz⟩:∃z,(s.body)[k]? = some z:=⟨_,List.getElem?_eq_getElem hlt⟩
   have hzm:z∈(s.body):=lm4 hz
   have hzt:=qak hz
   have hix:∀q2,ixD (some 23) q2 (.a (.sl ((s.body).map St.at))) (.a (.v (.int .i64 (k:Int))))=some (.a (.ref (St.at z) 0)):=fun q2=>qaw rfl (by rw [List.getElem?_map,hz];rfl) (by simp only [go_sem])
   have hw:k<9223372036854775807:=by omega
   skip
   replace fx:=ai42 hlt2 (ai42 hix (ai42 hw (ai42 hwl trivial)))
   repeat' (first|refine stp [0,1,2,4,5,6,7,32,37,45,50,60,65,75] ?_|(refine stc (r1:=by exact IB _ hzm) (r2:=?_);refine rnx ?_)|refine WP.cn (fun hc=>?_) (fun hc=>?_)|fail)
   ·refine qbb ?_
    rw [hfe,show (s.body).any ((St.muchB (left-1)))=true by rw [List.any_eq_true];exact⟨z,hzm,by simpa using hc⟩];rfl
   ·refine⟨⟨k+1,by omega,by rw [hzt,List.any_append,hinv];simpa using hc⟩,by dsimp only;omega,?_,rfl⟩
    simp only [qai,go_sem,simprocAttr]
  obtain rfl:k=(s.body).length:=by omega
  rw [List.take_length] at hinv
  have hlt2:decide (((s.body).length:Int)<((s.body).length:Int))=false:=decide_eq_false (by omega)
  rw [hinv,Bool.false_or] at hfe
  replace fx:=ai42 hlt2 trivial
  repeat' (first|refine stp [0,1,2,4,5,6,7,32,37,45,50,60,65,75] ?_|refine WP.cn (fun hc=>?_) (fun hc=>?_)|fail)
  refine WP.loop (α:={ k:Nat // k≤(s.els).length∧((s.els).take k).any ((St.muchB (left-1)))=false }) (fun y=>[(1,.a (.v (.int .i64 left))),(2,.a (.ptr 0 0)),(7,.a (.v (.int .i64 y.1)))]) (fun _=>[.cell (St.at s)]) (fun y=>(s.els).length-y.1) ⟨0,by omega,rfl⟩ (by simp only [qai,go_sem,simprocAttr]) rfl ?_
  rintro⟨k,hk,hinv⟩
  dsimp only
  by_cases hlt:k<(s.els).length
  ·have hlt2:decide ((k:Int)<(((s.els).length:Nat):Int))=true:=decide_eq_true (by omega)
   obtain⟨z,hz⟩:∃z,(s.els)[k]? = some z:=⟨_,List.getElem?_eq_getElem hlt⟩
   have hzm:z∈(s.els):=lm4 hz
   have hzt:=qak hz
   have hix:∀q2,ixD (some 23) q2 (.a (.sl ((s.els).map St.at))) (.a (.v (.int .i64 (k:Int))))=some (.a (.ref (St.at z) 0)):=fun q2=>qaw rfl (by rw [List.getElem?_map,hz];rfl) (by simp only [go_sem])
   have hw:k<9223372036854775807:=by omega
   skip
   replace fx:=ai42 hlt2 (ai42 hix (ai42 hw (ai42 hwl trivial)))
   repeat' (first|refine stp [0,1,2,4,5,6,7,32,37,45,50,60,65,75] ?_|(refine stc (r1:=by exact IE _ hzm) (r2:=?_);refine rnx ?_)|refine WP.cn (fun hc=>?_) (fun hc=>?_)|fail)
   ·refine qbb ?_
    rw [hfe,show (s.els).any ((St.muchB (left-1)))=true by rw [List.any_eq_true];exact⟨z,hzm,by simpa using hc⟩]
   ·refine⟨⟨k+1,by omega,by rw [hzt,List.any_append,hinv];simpa using hc⟩,by dsimp only;omega,?_,rfl⟩
    simp only [qai,go_sem,simprocAttr]
  obtain rfl:k=(s.els).length:=by omega
  rw [List.take_length] at hinv
  have hlt2:decide (((s.els).length:Int)<((s.els).length:Int))=false:=decide_eq_false (by omega)
  replace fx:=ai42 hlt2 trivial
  repeat' (first|refine stp [0,1,2,4,5,6,7,32,37,45,50,60,65,75] ?_|refine WP.cn (fun hc=>?_) (fun hc=>?_)|fail)
  exact qbb (by rw [hfe,hinv])
theorem pUniques (m:Me) (hz:m.sz≤1048576):qab Tryz.prog 16 [.r (Me.at m)] (.a (.v (.int .i64 m.uniques))):=by
 obtain⟨u1,u2,u3,u4,u5,u6⟩:=Me.szH hz
 have n1:=qi8 m.params
 have n2:=qi8 m.locals
 refine qab.go Tryz.func16 rfl Tryz.ntmps16 rfl rfl rfl (fun C hro=>?_)
 have fx:=trivial
 repeat' (first|refine stp [0,1,2,3,4,5,10,22,29,41] ?_|refine WP.cn (fun hc=>?_) (fun hc=>?_)|fail)
 refine WP.loop (α:={ k:Nat // k≤m.params.length }) (fun y=>[(1,.a (.ptr 0 0)),(3,.a (.v (.int .i64 (qah uniq (m.params.take y.1):Nat)))),(4,.a (.v (.int .i64 y.1)))]) (fun _=>[.cell (Me.at m)]) (fun y=>m.params.length-y.1) ⟨0,by omega⟩ (by simp only [qai,go_sem,simprocAttr,List.take_zero,qah,Nat.add_zero]) rfl ?_
 rintro⟨k,hk⟩
 dsimp only
 by_cases hlt:k<m.params.length
 ·have hlt2:decide ((k:Int)<((m.params.length:Nat):Int))=true:=decide_eq_true (by omega)
  obtain⟨z,hz⟩:∃z,m.params[k]? = some z:=⟨_,List.getElem?_eq_getElem hlt⟩
  have hzm:z∈m.params:=lm4 hz
  have hzt:=qak hz
  have hix:∀q2,ixD (some 13) q2 (.a (.sl (m.params.map Vr.at))) (.a (.v (.int .i64 (k:Int))))=some (.a (.ref (Vr.at z) 0)):=fun q2=>qaw rfl (by rw [List.getElem?_map,hz];rfl) (by simp only [go_sem])
  have hw:k<9223372036854775807:=by omega
  have hT:=qi8 (m.params.take k)
  rw [List.length_take] at hT
  have hwu:=qaz (k:=qah uniq (m.params.take k)) (by omega)
  replace fx:=ai42 hlt2 (ai42 hix (ai42 hw (ai42 hwu trivial)))
  repeat' (first|refine stp [0,1,2,3,4,5,10,22,29,41] ?_|refine WP.cn (fun hc=>?_) (fun hc=>?_)|fail)
  all_goals
   have hu:uniq z=_:=congrArg (fun b:Bool=>if b=true then 1 else 0) hc
   refine⟨⟨k+1,by omega⟩,by dsimp only;omega,?_,rfl⟩
   simp only [qai,go_sem,simprocAttr,hzt,qds,qex,hu,Bool.false_eq_true,Nat.add_zero,Nat.add_assoc]
 obtain rfl:k=m.params.length:=by omega
 have hlt2:decide ((m.params.length:Int)<(m.params.length:Int))=false:=decide_eq_false (by omega)
 repeat' (first|refine WP.seq ?_|(refine WP.reg [0,1,2,3,4,5,10,22,29,41] (by kernel_rfl) (by kernel_rfl) ?_;refine RS.run2 (by simp only [go_sem,simprocAttr,hlt2,List.take_length,qag];first|done|rfl) ?_;simp only [qa7])|(first|refine RS.finT (by simp only [go_sem,simprocAttr];first|done|rfl) ?_|refine RS.fin (by simp only [go_sem,simprocAttr];first|done|rfl) ?_;(try simp only [qag,qam]))|(refine RS.call (by simp only [go_sem,simprocAttr,hlt2,List.take_length,qag];first|done|rfl) (by simp only [go_sem,List.all_cons,List.all_nil,Bool.and_true,hlt2,List.take_length,qag]) (by fail) ?_;refine RS.run2 (by simp only [go_sem,simprocAttr,hlt2,List.take_length,qag];first|done|rfl) ?_;simp only [qa7])|((refine WP.cond rfl (by simp only [go_sem,simprocAttr,hlt2,List.take_length,qag];first|done|rfl) (fun hc=>?_) (fun hc=>?_))<;>try exact Bool.noConfusion hc)|(refine WP.skip ?_;(try simp only [qag,qam]))|(refine WP.exit ?_;(try simp only [qgz,qfa,qe9,ne_eq,Nat.reduceEqDiff,not_false_eq_true,reduceCtorEq,qag,qam]))|refine WP.block ?_|(refine WP.ret ?_;(try simp only [qeg,qdg]);refine ret1 rfl (by simp only [go_sem,simprocAttr,hlt2,List.take_length,qag];first|done|rfl) (by simp only [go_sem,hlt2,List.take_length,qag]) ?_)|(fail;simp only [List.take_succ_cons,List.take_zero,List.drop_succ_cons,List.drop_zero,List.take_nil,List.drop_nil];refine RQ.run2 (by simp only [go_sem,simprocAttr,hlt2,List.take_length,qag];first|done|rfl) ?_;simp only [qc8])|(refine RQ.nil ?_;refine RS.run2 (by simp only [go_sem,simprocAttr,hlt2,List.take_length,qag];first|done|rfl) ?_;simp only [qa7])|(refine RQ.call (by simp only [go_sem,simprocAttr,hlt2,List.take_length,qag];first|done|rfl) (by simp only [go_sem,List.all_cons,List.all_nil,Bool.and_true,hlt2,List.take_length,qag]) (by fail) ?_;refine RQ.run2 (by simp only [go_sem,simprocAttr,hlt2,List.take_length,qag];first|done|rfl) ?_;simp only [qc8]))
 refine WP.loop (α:={ k:Nat // k≤m.locals.length }) (fun y=>[(1,.a (.ptr 0 0)),(3,.a (.v (.int .i64 (qah uniq m.params+qah uniq (m.locals.take y.1):Nat)))),(5,.a (.v (.int .i64 y.1)))]) (fun _=>[.cell (Me.at m)]) (fun y=>m.locals.length-y.1) ⟨0,by omega⟩ (by simp only [qai,go_sem,simprocAttr,List.take_zero,qah,Nat.add_zero]) rfl ?_
 rintro⟨k,hk⟩
 dsimp only
 by_cases hlt:k<m.locals.length
 ·have hlt2:decide ((k:Int)<((m.locals.length:Nat):Int))=true:=decide_eq_true (by omega)
  obtain⟨z,hz⟩:∃z,m.locals[k]? = some z:=⟨_,List.getElem?_eq_getElem hlt⟩
  have hzm:z∈m.locals:=lm4 hz
  have hzt:=qak hz
  have hix:∀q2,ixD (some 13) q2 (.a (.sl (m.locals.map Vr.at))) (.a (.v (.int .i64 (k:Int))))=some (.a (.ref (Vr.at z) 0)):=fun q2=>qaw rfl (by rw [List.getElem?_map,hz];rfl) (by simp only [go_sem])
  have hw:k<9223372036854775807:=by omega
  have hT:=qi8 (m.locals.take k)
  rw [List.length_take] at hT
  have hwu:=qaz (k:=qah uniq m.params+qah uniq (m.locals.take k)) (by omega)
  replace fx:=ai42 hlt2 (ai42 hix (ai42 hw (ai42 hwu trivial)))
  repeat' (first|refine stp [0,1,2,3,4,5,10,22,29,41] ?_|refine WP.cn (fun hc=>?_) (fun hc=>?_)|fail)
  all_goals
   have hu:uniq z=_:=congrArg (fun b:Bool=>if b=true then 1 else 0) hc
   refine⟨⟨k+1,by omega⟩,by dsimp only;omega,?_,rfl⟩
   simp only [qai,go_sem,simprocAttr,hzt,qds,qex,hu,Bool.false_eq_true,Nat.add_zero,Nat.add_assoc]
 obtain rfl:k=m.locals.length:=by omega
 have hlt2:decide ((m.locals.length:Int)<(m.locals.length:Int))=false:=decide_eq_false (by omega)
 repeat' (first|refine WP.seq ?_|(refine WP.reg [0,1,2,3,4,5,10,22,29,41] (by kernel_rfl) (by kernel_rfl) ?_;refine RS.run2 (by simp only [go_sem,simprocAttr,hlt2,List.take_length,qag];first|done|rfl) ?_;simp only [qa7])|(first|refine RS.finT (by simp only [go_sem,simprocAttr];first|done|rfl) ?_|refine RS.fin (by simp only [go_sem,simprocAttr];first|done|rfl) ?_;(try simp only [qag,qam]))|(refine RS.call (by simp only [go_sem,simprocAttr,hlt2,List.take_length,qag];first|done|rfl) (by simp only [go_sem,List.all_cons,List.all_nil,Bool.and_true,hlt2,List.take_length,qag]) (by fail) ?_;refine RS.run2 (by simp only [go_sem,simprocAttr,hlt2,List.take_length,qag];first|done|rfl) ?_;simp only [qa7])|((refine WP.cond rfl (by simp only [go_sem,simprocAttr,hlt2,List.take_length,qag];first|done|rfl) (fun hc=>?_) (fun hc=>?_))<;>try exact Bool.noConfusion hc)|(refine WP.skip ?_;(try simp only [qag,qam]))|(refine WP.exit ?_;(try simp only [qgz,qfa,qe9,ne_eq,Nat.reduceEqDiff,not_false_eq_true,reduceCtorEq,qag,qam]))|refine WP.block ?_|(refine WP.ret ?_;(try simp only [qeg,qdg]);refine ret1 rfl (by simp only [go_sem,simprocAttr,hlt2,List.take_length,qag];first|done|rfl) (by simp only [go_sem,hlt2,List.take_length,qag]) ?_)|(fail;simp only [List.take_succ_cons,List.take_zero,List.drop_succ_cons,List.drop_zero,List.take_nil,List.drop_nil];refine RQ.run2 (by simp only [go_sem,simprocAttr,hlt2,List.take_length,qag];first|done|rfl) ?_;simp only [qc8])|(refine RQ.nil ?_;refine RS.run2 (by simp only [go_sem,simprocAttr,hlt2,List.take_length,qag];first|done|rfl) ?_;simp only [qa7])|(refine RQ.call (by simp only [go_sem,simprocAttr,hlt2,List.take_length,qag];first|done|rfl) (by simp only [go_sem,List.all_cons,List.all_nil,Bool.and_true,hlt2,List.take_length,qag]) (by fail) ?_;refine RQ.run2 (by simp only [go_sem,simprocAttr,hlt2,List.take_length,qag];first|done|rfl) ?_;simp only [qc8]))
 rfl
theorem qhk {t n k:Nat} {l:List Cs} (h:hvCs t n (l.take k)=none):hvCs t n l=none:=by
 rw [←List.take_append_drop k l,qj2,h];rfl
theorem qlc {n k:Nat} {l:List Me} (h:hvMe n (l.take k)=none):hvMe n l=none:=by
 rw [←List.take_append_drop k l,qj1,h];rfl
theorem qmm {n k:Nat} {l:List St} (h:qbp n (l.take k)=none):qbp n l=none:=by
 rw [←List.take_append_drop k l,qfs,h];rfl
theorem pHeavy (l:List Cs) (hz:qah Cs.sz l≤1048576):qab Tryz.prog 6 [.a (.sl (l.map Cs.at))] (.a (.v (.bool (qld l)))):=by
 have hll:=qas Cs.sz_pos l
 have b4:qah Cs.stmts l≤qah Cs.sz l:=qi9 _ fun c _=>c.stmts_le
 have hN:hvCs l.length 0 l=none→qld l=true:=by intro h;unfold qld;rw [h]
 refine qab.go Tryz.func6 rfl Tryz.ntmps6 rfl rfl rfl (fun C hro=>?_)
 have fx:=trivial
 repeat' (first|refine stp [0,2,3,4,5,6,7,8,12,45,50,78,83,95] ?_|refine WP.cn (fun hc=>?_) (fun hc=>?_)|fail)
 refine WP.loopX (α:={ q:Nat×Nat // q.1≤l.length∧hvCs l.length 0 (l.take q.1)=some q.2 }) (fun y=>[(0,.a (.sl (l.map Cs.at))),(3,.a (.v (.int .i64 (y.1.2:Nat)))),(4,.a (.v (.int .i64 (y.1.1:Nat))))]) (fun _=>[]) (fun y=>l.length-y.1.1) ⟨(0,0),by dsimp only;omega,rfl⟩ (by simp only [qai,go_sem,simprocAttr];first|done|rfl|exact⟨rfl,rfl⟩) rfl ?_
 rintro⟨⟨k,n⟩,hk,hn⟩
 dsimp only at hk hn ⊢
 have hle:=hvCs_le _ _ _ _ hn
 by_cases hlt:k<l.length
 ·have hlt2:decide ((k:Int)<((l.length:Nat):Int))=true:=decide_eq_true (by omega)
  obtain⟨z,hz⟩:∃z,l[k]? = some z:=⟨_,List.getElem?_eq_getElem hlt⟩
  have hzm:z∈l:=lm4 hz
  have hzt:=qak hz
  have hix:∀q2,ixD (some 7) q2 (.a (.sl (l.map Cs.at))) (.a (.v (.int .i64 (k:Int))))=some (.a (.ref (Cs.at z) 0)):=fun q2=>qaw rfl (by rw [List.getElem?_map,hz];rfl) (by simp only [go_sem])
  have hw:k<9223372036854775807:=by omega
  have hzz:z.sz≤1048576:=by have:=qbi (f:=Cs.sz) hzm;omega
  obtain⟨y1,y2,y3,y4,y5,y6,y7,y8,y9⟩:=Cs.szH hzz
  have t4:=qfl Cs.stmts l (k+1)
  rw [hzt,qds,qex] at t4
  have hstep:hvCs l.length 0 (l.take (k+1))=hvCs l.length n [z]:=by rw [hzt,qj2,hn];rfl
  replace fx:=ai42 hlt2 (ai42 hix (ai42 hw trivial))
  repeat' (first|refine stp [0,2,3,4,5,6,7,8,12,45,50,78,83,95] ?_|refine WP.cn (fun hc=>?_) (fun hc=>?_)|fail)
  ·refine qbb ?_
   refine (hN (qhk (k:=k+1) ?_)).symm
   rw [hstep,hvCs,hc];rfl
  have hstep:hvCs l.length 0 (l.take (k+1))=hvMe n z.methods:=by
   rw [hstep,hvCs,hc]
   simp only [cond_false,hvCs]
   cases hvMe n z.methods<;>rfl
  refine WP.loopX (α:={ q:Nat×Nat // q.1≤z.methods.length∧hvMe n (z.methods.take q.1)=some q.2 }) (fun y=>[(0,.a (.sl (l.map Cs.at))),(3,.a (.v (.int .i64 (y.1.2:Nat)))),(4,.a (.v (.int .i64 k))),(5,.a (.ptr 0 0)),(6,.a (.v (.int .i64 (y.1.1:Nat))))]) (fun _=>[.cell (Cs.at z)]) (fun y=>z.methods.length-y.1.1) ⟨(0,n),by dsimp only;omega,rfl⟩ (by simp only [qai,go_sem,simprocAttr];first|done|rfl|exact⟨rfl,rfl⟩) rfl ?_
  rintro⟨⟨j,n2⟩,hj,hn2⟩
  dsimp only at hj hn2 ⊢
  have hle2:=qml _ _ _ hn2
  by_cases hlj:j<z.methods.length
  ·have hlt3:decide ((j:Int)<((z.methods.length:Nat):Int))=true:=decide_eq_true (by omega)
   obtain⟨m,hm⟩:∃m,z.methods[j]? = some m:=⟨_,List.getElem?_eq_getElem hlj⟩
   have hmm:m∈z.methods:=lm4 hm
   have hmt:=qak hm
   have hiz:∀q2,ixD (some 17) q2 (.a (.sl (z.methods.map Me.at))) (.a (.v (.int .i64 (j:Int))))=some (.a (.ref (Me.at m) 0)):=fun q2=>qaw rfl (by rw [List.getElem?_map,hm];rfl) (by simp only [go_sem])
   have hw2:j<9223372036854775807:=by omega
   have hmz:m.sz≤1048576:=by have:=qbi (f:=Me.sz) hmm;omega
   obtain⟨u1,u2,u3,u4,u5,u6⟩:=Me.szH hmz
   have q3:=qfl (fun m:Me=>St.cnts m.body) z.methods (j+1)
   rw [hmt,qds,qex] at q3
   have q4:qah (fun m:Me=>St.cnts m.body) z.methods=z.stmts:=rfl
   have hbl:=St.szs_len m.body
   have hstep2:hvMe n (z.methods.take (j+1))=hvMe n2 [m]:=by rw [hmt,qj1,hn2];rfl
   replace fx:=ai42 hlt3 (ai42 hix (ai42 hiz (ai42 hw2 trivial)))
   repeat' (first|refine stp [0,2,3,4,5,6,7,8,12,45,50,78,83,95] ?_|(refine stc (r1:=by exact pUniques m hmz) (r2:=?_);refine rnx ?_)|refine WP.cn (fun hc=>?_) (fun hc=>?_)|fail)
   ·refine qbb ?_
    refine (hN (qhk (k:=k+1) ?_)).symm
    rw [hstep]
    refine qlc (k:=j+1) ?_
    rw [hstep2,hvMe,hc];rfl
   have hstep2:hvMe n (z.methods.take (j+1))=qbp n2 m.body:=by
    rw [hstep2,hvMe,hc]
    simp only [cond_false,hvMe]
    cases qbp n2 m.body<;>rfl
   refine WP.loop (α:={ q:Nat×Nat // q.1≤m.body.length∧qbp n2 (m.body.take q.1)=some q.2 }) (fun y=>[(0,.a (.sl (l.map Cs.at))),(3,.a (.v (.int .i64 (y.1.2:Nat)))),(4,.a (.v (.int .i64 k))),(5,.a (.ptr 0 0)),(6,.a (.v (.int .i64 j))),(7,.a (.ptr 1 0)),(8,.a (.v (.int .i64 (y.1.1:Nat))))]) (fun _=>[.cell (Cs.at z),.cell (Me.at m)]) (fun y=>m.body.length-y.1.1) ⟨(0,n2),by dsimp only;omega,rfl⟩ (by simp only [qai,go_sem,simprocAttr];first|done|rfl|exact⟨rfl,rfl⟩) rfl ?_
   rintro⟨⟨i,n3⟩,hi,hn3⟩
   dsimp only at hi hn3 ⊢
   have hle3:=qhl _ _ _ hn3
   by_cases hli:i<m.body.length
   ·have hlt4:decide ((i:Int)<((m.body.length:Nat):Int))=true:=decide_eq_true (by omega)
    obtain⟨s,hs⟩:∃s,m.body[i]? = some s:=⟨_,List.getElem?_eq_getElem hli⟩
    have hsm:s∈m.body:=lm4 hs
    have hst:=qak hs
    have his:∀q2,ixD (some 23) q2 (.a (.sl (m.body.map St.at))) (.a (.v (.int .i64 (i:Int))))=some (.a (.ref (St.at s) 0)):=fun q2=>qaw rfl (by rw [List.getElem?_map,hs];rfl) (by simp only [go_sem])
    have hw3:i<9223372036854775807:=by omega
    have hT:=St.cnts_take m.body (i+1)
    rw [hst,St.cnts_app,St.cnts_one] at hT
    have hwS:=w64 (a:=n3) (b:=s.cnt) rfl (by omega)
    have hstep3:qbp n2 (m.body.take (i+1))=qbp n3 [s]:=by rw [hst,qfs,hn3];rfl
    have hsz:s.sz≤1048576:=by have:=St.szs_mem hsm;omega
    replace fx:=ai42 hlt4 (ai42 his (ai42 hw3 (ai42 hwS trivial)))
    repeat' (first|refine stp [0,2,3,4,5,6,7,8,12,45,50,78,83,95] ?_|(refine stc (r1:=by first|exact pMuch _ s 25 (Nat.le_refl _) hsz (by omega)|exact pSize _ s (Nat.le_refl _) hsz) (r2:=?_);refine rnx ?_)|refine WP.cn (fun hc=>?_) (fun hc=>?_)|fail)
    ·refine qbb ?_
     refine (hN (qhk (k:=k+1) ?_)).symm
     rw [hstep]
     refine qlc (k:=j+1) ?_
     rw [hstep2]
     refine qmm (k:=i+1) ?_
     rw [hstep3,qbp,hc];rfl
    ·refine⟨⟨(i+1,n3+s.cnt),by dsimp only;omega,by dsimp only;rw [hstep3,qbp,hc];rfl⟩,by dsimp only;omega,?_,rfl⟩
     simp only [qai,go_sem,simprocAttr]
   obtain rfl:i=m.body.length:=by omega
   have hlt4:decide (((m.body.length:Nat):Int)<((m.body.length:Nat):Int))=false:=decide_eq_false (by omega)
   rw [List.take_length] at hn3
   replace fx:=ai42 hlt4 (ai42 hw2 trivial)
   repeat' (first|refine stp [0,2,3,4,5,6,7,8,12,45,50,78,83,95] ?_|refine WP.cn (fun hc=>?_) (fun hc=>?_)|fail)
   refine⟨⟨(j+1,n3),by dsimp only;omega,by dsimp only;rw [hstep2,hn3]⟩,[.cell (Me.at m)],by dsimp only;omega,?_,rfl,rfl,?_⟩
   ·simp only [qai,go_sem,simprocAttr]
   ·simp only [nrS,go_sem,Bool.and_true]
  obtain rfl:j=z.methods.length:=by omega
  have hlt3:decide (((z.methods.length:Nat):Int)<((z.methods.length:Nat):Int))=false:=decide_eq_false (by omega)
  rw [List.take_length] at hn2
  replace fx:=ai42 hlt3 (ai42 hw trivial)
  repeat' (first|refine stp [0,2,3,4,5,6,7,8,12,45,50,78,83,95] ?_|refine WP.cn (fun hc=>?_) (fun hc=>?_)|fail)
  refine⟨⟨(k+1,n2),by dsimp only;omega,by dsimp only;rw [hstep,hn2]⟩,[.cell (Cs.at z)],by dsimp only;omega,?_,rfl,rfl,rfl⟩
  simp only [qai,go_sem,simprocAttr]
 obtain rfl:k=l.length:=by omega
 have hlt2:decide ((l.length:Int)<(l.length:Int))=false:=decide_eq_false (by omega)
 rw [List.take_length] at hn
 replace fx:=ai42 hlt2 trivial
 repeat' (first|refine stp [0,2,3,4,5,6,7,8,12,45,50,78,83,95] ?_|refine WP.cn (fun hc=>?_) (fun hc=>?_)|fail)
 refine qbb ?_
 unfold qld
 rw [hn]
end Go.Proofs.YthkojpnjdpbcgaaGreatDoor
