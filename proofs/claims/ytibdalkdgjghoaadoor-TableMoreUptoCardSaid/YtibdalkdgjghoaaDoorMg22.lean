/- slices.EqualFunc and Equal, on plain data. Conditions: at most 2^20 elements. -/
import Derived.Test.YtibdalkdgjghoaaDoorMg21
import Derived.Test.YtibdalkdgjghoaaDoorMg6
import Derived.Test.YtibdalkdgjghoaaDoorMg18
set_option linter.unusedVariables false
set_option maxRecDepth 100000
set_option maxHeartbeats 8000000
set_option linter.unusedSimpArgs false
namespace Go.Proofs.YtibdalkdgjghoaaDoor
open Go.RowKit
theorem pEqExpr (q:Ex→Ex→Bool) (l m:List Ex) (fn:FuncId) (hn:l.length≤2097152) (hf:∀k∈l,∀y,DPure Tryd.prog fn [.r (Ex.at k),.r (Ex.at y)] (.a (.v (.bool (q k y))))):DPure Tryd.prog 90 [.a (.sl (l.map Ex.at)),.a (.sl (m.map Ex.at)),.a (.fn fn [])] (.a (.v (.bool (l.length==m.length&&(l.zip m).all fun p=>q p.1 p.2)))):=by
 refine DPure.go Tryd.func90 rfl Tryd.ntmps90 rfl rfl rfl (fun C hro=>?_)
 have fx:=trivial
 repeat' (first|refine stp [0,1,2,6,7,8,9,14,15,16,17,18,30] ?_|refine WP.cn (fun hc=>?_) (fun hc=>?_)|fail)
 ·refine bool_eq ?_
  rw [zlen _ (lenB hc)]
 have hl:=lenE hc
 have hse:=zeql (fun p:Ex×Ex=>q p.1 p.2) hl
 refine WP.loopX (α:={ k:Nat // k≤l.length∧((l.zip m).take k).all (fun p=>q p.1 p.2)=true }) (fun y=>[(1,.a (.sl (m.map Ex.at))),(2,.a (.fn fn [])),(15,.a (.sl (l.map Ex.at))),(16,.a (.v (.int .i64 (l.length:Nat)))),(17,.a (.v (.int .i64 (y.1:Nat))))]) (fun _=>[]) (fun y=>l.length-y.1) ⟨0,by omega,rfl⟩ (by simp only [Agree,go_sem,simprocAttr];first|done|rfl) rfl ?_
 rintro⟨k,hk,hinv⟩
 dsimp only
 by_cases hlt:k<l.length
 ·have hlt2:decide ((k:Int)<((l.length:Nat):Int))=true:=decide_eq_true (by omega)
  obtain⟨z,hz⟩:∃z,l[k]? = some z:=⟨_,List.getElem?_eq_getElem hlt⟩
  have hzm:z∈l:=List.mem_of_getElem? hz
  have hzt:=take_snocA hz
  have hix:∀q2,ixD (some 4) q2 (.a (.sl (l.map Ex.at))) (.a (.v (.int .i64 (k:Int))))=some (.a (.ref (Ex.at z) 0)):=fun q2=>ixD_at rfl (by rw [List.getElem?_map,hz];rfl) (by simp only [go_sem])
  obtain⟨v,hv⟩:∃z,m[k]? = some z:=⟨_,List.getElem?_eq_getElem (by omega)⟩
  have hvm:v∈m:=List.mem_of_getElem? hv
  have hiy:∀q2,ixD (some 4) q2 (.a (.sl (m.map Ex.at))) (.a (.v (.int .i64 (k:Int))))=some (.a (.ref (Ex.at v) 0)):=fun q2=>ixD_at rfl (by rw [List.getElem?_map,hv];rfl) (by simp only [go_sem])
  have hw:k<9223372036854775807:=by omega
  have hwu:=wrap64n (k:=k) (by omega)
  have hzv:(l.zip m)[k]? = some (z,v):=by rw [List.getElem?_zip_eq_some];exact⟨hz,hv⟩
  replace fx:=And.intro hlt2 (And.intro hix (And.intro hiy (And.intro hwu trivial)))
  repeat' (first|refine stp [0,1,2,6,7,8,9,14,15,16,17,18,30] ?_|(refine stc (r1:=by exact hf z hzm v) (r2:=?_);refine rnx ?_)|refine WP.cn (fun hc=>?_) (fun hc=>?_)|fail)
  ·refine bool_eq ?_
   rw [hse,show ((l.zip m).all fun p=>q p.1 p.2)=false by rw [List.all_eq_false];exact⟨(z,v),List.mem_of_getElem? hzv,by simpa using hc⟩]
  ·refine⟨⟨k+1,by omega,?_⟩,[.cell (Ex.at z),.cell (Ex.at v)],by dsimp only;omega,?_,rfl,rfl,rfl⟩
   ·rw [take_snocA hzv,List.all_append,hinv];simpa using hc
   ·simp only [Agree,go_sem,simprocAttr]
 obtain rfl:k=l.length:=by omega
 have hlt2:decide ((l.length:Int)<(l.length:Int))=false:=decide_eq_false (by omega)
 rw [List.take_of_length_le (by rw [List.length_zip];omega)] at hinv
 replace fx:=And.intro hlt2 trivial
 repeat' (first|refine stp [0,1,2,6,7,8,9,14,15,16,17,18,30] ?_|refine WP.cn (fun hc=>?_) (fun hc=>?_)|fail)
 exact bool_eq (by rw [hse,hinv])
theorem samesX (l m:List Ex):Ex.samesB l m=(l.length==m.length&&(l.zip m).all fun p=>p.1.sameB p.2):=by
 by_cases h:l.length=m.length
 ·rw [Ex.samesB_zip h,zeql _ h]
 ·rw [Ex.samesB_len h,zlen _ h]
theorem peSame:∀(m:Nat) (e f:Ex),e.sz≤m→e.sz≤2097152→DPure Tryd.prog 85 [.r (Ex.at e),.r (Ex.at f)] (.a (.v (.bool (e.sameB f))))
 | 0,e,_,h,_=>by have:=e.sz_pos;omega
 | m+1,e,f,h,hz0=>by
  have hlen:e.kids.length≤2097152:=by have:=Ex.szs_len e.kids;have:=e.sz_eq;omega
  have IH:=pEqExpr Ex.sameB e.kids f.kids 85 hlen fun k hk y=>peSame m k y (by have:=Ex.kid_lt hk;omega) (by have:=Ex.kid_lt hk;omega)
  rw [←samesX] at IH
  have hse:=e.same_eq f
  refine DPure.go Tryd.func85 rfl Tryd.ntmps85 rfl rfl rfl (fun C hro=>?_)
  have fx:=trivial
  repeat' (first|refine stp [0,1,2,3,4] ?_|(refine stc (r1:=by exact IH) (r2:=?_);refine rnx ?_)|fail)
  refine bool_eq ?_
  rw [hse]
  cases (e.kind==f.kind)<;>cases (e.num==f.num)<;>cases (e.name==f.name)<;>cases Ex.samesB e.kids f.kids<;>rfl
theorem pwName (t:List UInt8) (h:t.length≤1000000000):DPure Tryd.prog 45 [.a (.v (.string (bs t)))] (.a (.v (.bool (nameB t)))):=by
 have:=DPure.scal (P:=Tryd.prog) (f:=45) (xs:=[.string (bs t)]) (z:=.bool (nameB t)) (callFunc_of Tryd.func45 rfl rfl) rfl fun w hw=>by
  have:=wName_any w (bs t) h (hw w (Nat.le_refl _) fun _ _=>rfl)
  rw [bs_data] at this
  exact this
 exact this
theorem psNone (e:Ex) (hz:e.sz≤2097152):DPure Tryd.prog 80 [.r (Ex.at e)] (.a (.v (.bool (e.sameB Ex.zero)))):=by
 refine DPure.go Tryd.func80 rfl Tryd.ntmps80 rfl rfl rfl (fun C hro=>?_)
 have fx:=trivial
 repeat' (first|refine stp [0,1,2] ?_|(refine stc (r1:=by exact peSame _ e Ex.zero (Nat.le_refl _) hz) (r2:=?_);refine rnx ?_)|fail)
 rfl
theorem deep_kids (e:Ex) (left:Int) (h:0<left):(!e.kids.any fun k=>!decide ((k.deep:Int)≤left-1))=decide ((e.deep:Int)≤left):=by
 have hd:=e.deep_eq
 have up:∀l:List Ex,(∀x∈l,(x.deep:Int)≤left-1)→(Ex.deeps l:Int)≤left-1:=by
  intro l
  induction l with
  | nil=>intro _;rw [Ex.deeps];omega
  | cons x r ih=>intro hx;rw [Ex.deeps];have:=hx x (by simp);have:=ih fun y hy=>hx y (by simp [hy]);omega
 have dn:∀(l:List Ex) (x:Ex),x∈l→x.deep≤Ex.deeps l:=by
  intro l x
  induction l with
  | nil=>intro h;simp at h
  | cons y r ih =>
   intro h;rw [Ex.deeps]
   rcases List.mem_cons.1 h with rfl|h
   ·omega
   ·have:=ih h;omega
 by_cases hk:(e.deep:Int)≤left
 ·rw [decide_eq_true hk,Bool.not_eq_true',List.any_eq_false]
  intro x hx
  have:=dn _ _ hx
  rw [decide_eq_true (by omega)];simp
 ·rw [decide_eq_false hk,Bool.not_eq_false',List.any_eq_true]
  apply Classical.byContradiction
  intro hn
  refine hk ?_
  have:=up e.kids fun x hx=>Classical.byContradiction fun hx2=>hn ⟨x,hx,by rw [decide_eq_false hx2];rfl⟩
  omega
@[go_sem] theorem clA_val (x:Value):clA (.v x)=true:=rfl
@[go_sem] theorem ldRow_one (y:A):ldRow none [y] 0=some (.a y):=rfl
theorem peDeep:∀(m:Nat) (e:Ex) (left:Int),e.sz≤m→e.sz≤2097152→0≤left→left≤2097152→DPure Tryd.prog 86 [.r (Ex.at e),.a (.v (.int .i64 left))] (.a (.v (.bool (decide ((e.deep:Int)≤left)))))
 | 0,e,_,h,_,_,_=>by have:=e.sz_pos;omega
 | m+1,e,left,h,hz0,h0,h1=>by
  have hlen:e.kids.length≤2097152:=by have:=Ex.szs_len e.kids;have:=e.sz_eq;omega
  have hd:=e.deep_eq
  by_cases hl:left=0
  ·subst hl
   refine DPure.go Tryd.func86 rfl Tryd.ntmps86 rfl rfl rfl (fun C hro=>?_)
   have fx:=trivial
   repeat' (first|refine WP.seq ?_|(refine WP.reg [0,1,2,3,4,6] (by kernel_rfl) (by kernel_rfl) ?_;refine RS.run2 (by simp only [go_sem,simprocAttr,thenQ_n,beq_self_eq_true];first|done|rfl) ?_;simp only [RSr_mk])|(first|refine RS.finT (by simp only [go_sem,simprocAttr];first|done|rfl) ?_|refine RS.fin (by simp only [go_sem,simprocAttr];first|done|rfl) ?_;(try simp only [thenQ_n,blockQ_n]))|(refine RS.callL (by simp only [go_sem,simprocAttr,thenQ_n,beq_self_eq_true];first|done|rfl) (by simp only [go_sem,simprocAttr,List.all_cons,List.all_nil,Bool.and_true,thenQ_n,beq_self_eq_true]) (by fail) ?_;refine RS.run2 (by simp only [go_sem,simprocAttr,thenQ_n,beq_self_eq_true];first|done|rfl) ?_;simp only [RSr_mk])|(refine RS.callvL (by simp only [go_sem,simprocAttr,thenQ_n,beq_self_eq_true];first|done|rfl) (by simp only [go_sem,simprocAttr,thenQ_n,beq_self_eq_true];first|done|rfl) (by simp only [go_sem,simprocAttr,List.all_cons,List.all_nil,Bool.and_true,thenQ_n,beq_self_eq_true]) (by fail) ?_;refine RS.run2 (by simp only [go_sem,simprocAttr,thenQ_n,beq_self_eq_true];first|done|rfl) ?_;simp only [RSr_mk])|((refine WP.cond rfl (by simp only [go_sem,simprocAttr,thenQ_n,beq_self_eq_true];first|done|rfl) (fun hc=>?_) (fun hc=>?_))<;>try exact Bool.noConfusion hc)|(refine WP.skip ?_;(try simp only [thenQ_n,blockQ_n]))|(refine WP.exit ?_;(try simp only [thenQ_e,blockQ_e,blockQ_o,ne_eq,Nat.reduceEqDiff,not_false_eq_true,reduceCtorEq,thenQ_n,blockQ_n]))|refine WP.block ?_|(refine WP.ret ?_;(try simp only [thenQ_r,blockQ_r]);refine ret1 rfl (by simp only [go_sem,simprocAttr,thenQ_n,beq_self_eq_true];first|done|rfl) (by simp only [go_sem,thenQ_n,beq_self_eq_true]) ?_)|(fail;simp only [List.take_succ_cons,List.take_zero,List.drop_succ_cons,List.drop_zero,List.take_nil,List.drop_nil];refine RQ.run2 (by simp only [go_sem,simprocAttr,thenQ_n,beq_self_eq_true];first|done|rfl) ?_;simp only [RQr_mk])|(refine RQ.nil ?_;refine RS.run2 (by simp only [go_sem,simprocAttr,thenQ_n,beq_self_eq_true];first|done|rfl) ?_;simp only [RSr_mk])|(refine RQ.callL (by simp only [go_sem,simprocAttr,thenQ_n,beq_self_eq_true];first|done|rfl) (by simp only [go_sem,simprocAttr,List.all_cons,List.all_nil,Bool.and_true,thenQ_n,beq_self_eq_true]) (by fail) ?_;refine RQ.run2 (by simp only [go_sem,simprocAttr,thenQ_n,beq_self_eq_true];first|done|rfl) ?_;simp only [RQr_mk])|(refine RQ.callvL (by simp only [go_sem,simprocAttr,thenQ_n,beq_self_eq_true];first|done|rfl) (by simp only [go_sem,simprocAttr,thenQ_n,beq_self_eq_true];first|done|rfl) (by simp only [go_sem,simprocAttr,List.all_cons,List.all_nil,Bool.and_true,thenQ_n,beq_self_eq_true]) (by fail) ?_;refine RQ.run2 (by simp only [go_sem,simprocAttr,thenQ_n,beq_self_eq_true];first|done|rfl) ?_;simp only [RQr_mk]))
   refine bool_eq ?_
   rw [eq_comm,decide_eq_false_iff_not];omega
  ·have hlb:(left==0)=false:=by simpa using hl
   have hwl:IntKind.i64.wrap (left-1)=left-1:=wrap64 (by omega) (by omega)
   have IH:∀k∈e.kids,DPure Tryd.prog 86 [.r (Ex.at k),.a (.v (.int .i64 (left-1)))] (.a (.v (.bool (decide ((k.deep:Int)≤left-1))))):=fun k hk=>peDeep m k _ (by have:=Ex.kid_lt hk;omega) (by have:=Ex.kid_lt hk;omega) (by omega) (by omega)
   have I1:∀k∈e.kids,DPure Tryd.prog 91 [.r (Ex.at k),.a (.ref [.v (.int .i64 left)] 0)] (.a (.v (.bool (!decide ((k.deep:Int)≤left-1))))):=fun k hk=>by
    have:=IH k hk
    refine DPure.go Tryd.func91 rfl Tryd.ntmps91 rfl rfl rfl (fun C hro=>?_)
    have fx:=trivial
    replace fx:=And.intro hwl trivial
    repeat' (first|refine stp [0,1,2,3] ?_|(refine stc (r1:=by exact this) (r2:=?_);refine rnx ?_)|fail)
    rfl
   refine DPure.go Tryd.func86 rfl Tryd.ntmps86 rfl rfl rfl (fun C hro=>?_)
   have fx:=trivial
   replace fx:=And.intro hlb trivial
   repeat' (first|refine stp [0,1,2,3,4,6] ?_|(refine stc (r1:=by exact pCfExpr (fun k=>!decide ((k.deep:Int)≤left-1)) e.kids 91 [.ref [.v (.int .i64 left)] 0] rfl hlen I1) (r2:=?_);refine rnx ?_)|refine WP.cn (fun hc=>?_) (fun hc=>?_)|fail)
   exact bool_eq (deep_kids e left (by omega))
def kidsP (k:Int):Int:=if k=1∨k=2∨k=3∨k=4∨k=5 then 0 else if k=12∨k=13 then 1 else if k=6∨k=7∨k=8∨k=9∨k=10∨k=11∨k=14 then 2 else -1
theorem peKids (k:Int):DPure Tryd.prog 94 [.a (.v (.int .i64 k))] (.a (.v (.int .i64 (kidsP k)))):=by
 by_cases hin:1≤k∧k≤14
 ·have:k=1∨k=2∨k=3∨k=4∨k=5∨k=6∨k=7∨k=8∨k=9∨k=10∨k=11∨k=12∨k=13∨k=14:=by omega
  clear hin
  rcases this with rfl|rfl|rfl|rfl|rfl|rfl|rfl|rfl|rfl|rfl|rfl|rfl|rfl|rfl
  all_goals
   refine DPure.go Tryd.func94 rfl Tryd.ntmps94 rfl rfl rfl (fun C hro=>?_)
   have fx:=trivial
   repeat' (first|refine stp [0,2,3,4,10,13] ?_|refine WP.cn (fun hc=>?_) (fun hc=>?_)|fail)
   rfl
 ·have h1:=beqF (show k≠1 by omega)
  have h2:=beqF (show k≠2 by omega)
  have h3:=beqF (show k≠3 by omega)
  have h4:=beqF (show k≠4 by omega)
  have h5:=beqF (show k≠5 by omega)
  have h6:=beqF (show k≠6 by omega)
  have h7:=beqF (show k≠7 by omega)
  have h8:=beqF (show k≠8 by omega)
  have h9:=beqF (show k≠9 by omega)
  have h10:=beqF (show k≠10 by omega)
  have h11:=beqF (show k≠11 by omega)
  have h12:=beqF (show k≠12 by omega)
  have h13:=beqF (show k≠13 by omega)
  have h14:=beqF (show k≠14 by omega)
  refine DPure.go Tryd.func94 rfl Tryd.ntmps94 rfl rfl rfl (fun C hro=>?_)
  have fx:=trivial
  replace fx:=And.intro h1 (And.intro h2 (And.intro h3 (And.intro h4 (And.intro h5 (And.intro h6 (And.intro h7 (And.intro h8 (And.intro h9 (And.intro h10 (And.intro h11 (And.intro h12 (And.intro h13 (And.intro h14 trivial)))))))))))))
  repeat' (first|refine stp [0,2,3,4,10,13] ?_|refine WP.cn (fun hc=>?_) (fun hc=>?_)|fail)
  refine int_eq ?_
  unfold kidsP
  rw [if_neg (by omega),if_neg (by omega),if_neg (by omega)]
end Go.Proofs.YtibdalkdgjghoaaDoor
