/- slices.IndexFunc and ContainsFunc, on plain data. Conditions: at most 2^20 elements. -/
import Derived.Test.YtbhmfkjbaklfeaaDoorMg9
import Derived.Test.YtbhmfkjbaklfeaaDoorMg6
import Derived.Test.YtbhmfkjbaklfeaaDoorMg12
import Derived.Test.YtbhmfkjbaklfeaaDoorMg13
set_option linter.unusedVariables false
set_option maxRecDepth 100000
set_option maxHeartbeats 8000000
set_option linter.unusedSimpArgs false
namespace Go.Proofs.YtbhmfkjbaklfeaaDoor
open Go.RowKit
def ixOf {α:Type} (q:α→Bool):List α→Nat→Int
 | [],_=>-1
 | x::r,k=>if q x=true then (k:Int) else ixOf q r (k+1)
theorem ixOf_any {α:Type} (q:α→Bool):∀(l:List α) (k:Nat),decide (ixOf q l k≥0)=l.any q
 | [],_=>rfl
 | x::r,k=>by
  rw [ixOf,List.any_cons]
  cases hx:q x
  ·rw [if_neg (by simp),Bool.false_or];exact ixOf_any q r (k+1)
  ·rw [if_pos rfl,Bool.true_or];exact decide_eq_true (by omega)
theorem ixOf_at {α:Type} (q:α→Bool):∀(l:List α) (j k:Nat) (z:α),l[j]? = some z→(l.take j).any q=false→q z=true→ixOf q l k=((k+j:Nat):Int)
 | [],j,k,z,h,_,_=>by simp at h
 | x::r,0,k,z,h,_,hz=>by
  simp at h;subst h
  rw [ixOf,if_pos hz];rfl
 | x::r,j+1,k,z,h,hn,hz=>by
  rw [List.take_succ_cons,List.any_cons,Bool.or_eq_false_iff] at hn
  rw [ixOf,if_neg (by rw [hn.1];simp),ixOf_at q r j (k+1) z (by simpa using h) hn.2 hz]
  congr 1;omega
theorem ixOf_none {α:Type} (q:α→Bool):∀(l:List α) (k:Nat),l.any q=false→ixOf q l k = -1
 | [],_,_=>rfl
 | x::r,k,h=>by
  rw [List.any_cons,Bool.or_eq_false_iff] at h
  rw [ixOf,if_neg (by rw [h.1];simp)];exact ixOf_none q r (k+1) h.2
theorem cap_okD {caps:List A} (hcl:caps.all clA=true):∀st:List Bx,(caps.map D.a).all (ldOkD st)=true:=fun st=>by
 rw [List.all_map];rw [List.all_eq_true] at hcl ⊢
 intro y hy;have:=hcl y hy
 cases y<;>first|rfl|(cases this)|skip
 rename_i f l;cases l with
 | nil=>rfl
 | cons=>cases this
theorem cap_ldD {caps:List A} (hcl:caps.all clA=true):∀st:List Bx,(caps.map D.a).map (lendD st)=caps.map D.a:=fun st=>by
 rw [List.map_map]
 refine List.map_congr_left fun y hy=>?_
 have:=List.all_eq_true.1 hcl y hy
 cases y<;>first|rfl|(cases this)|skip
 rename_i f l;cases l with
 | nil=>rfl
 | cons=>cases this
theorem cap_ok0 {caps:List A} (hcl:caps.all clA=true):∀st:List Bx,caps.all (ldOk0 st)=true:=fun st=>by
 rw [List.all_eq_true] at hcl ⊢
 intro y hy;have:=hcl y hy
 cases y<;>first|rfl|(cases this)|skip
 rename_i f l;cases l with
 | nil=>rfl
 | cons=>cases this
theorem cap_ld0 {caps:List A} (hcl:caps.all clA=true):∀st:List Bx,caps.map (lend0 st)=caps:=fun st=>by
 conv=>rhs;rw [←List.map_id caps]
 refine List.map_congr_left fun y hy=>?_
 have:=List.all_eq_true.1 hcl y hy
 cases y<;>first|rfl|(cases this)|skip
theorem pIxExpr (q:Ex→Bool) (l:List (Ex)) (fn:FuncId) (caps:List A) (hcl:caps.all clA=true) (hn:l.length≤1048576) (hf:∀k∈l,DPure Tryd.prog fn (.r (Ex.at k)::caps.map D.a) (.a (.v (.bool (q k))))):DPure Tryd.prog 47 [.a (.sl (l.map Ex.at)),.a (.fn fn caps)] (.a (.v (.int .i64 (ixOf q l 0)))):=by
 have hcd:=cap_okD hcl
 have hld:=cap_ldD hcl
 refine DPure.go Tryd.func47 rfl Tryd.ntmps47 rfl rfl rfl (fun C hro=>?_)
 have fx:=trivial
 repeat' (first|refine stp [0,1,4,5,7,8,9,16] ?_|refine WP.cn (fun hc=>?_) (fun hc=>?_)|fail)
 refine WP.loop (α:={ k:Nat // k≤l.length∧(l.take k).any q=false }) (fun y=>[(0,.a (.sl (l.map Ex.at))),(1,.a (.fn fn caps)),(7,.a (.v (.int .i64 (l.length:Nat)))),(8,.a (.v (.int .i64 (y.1:Nat))))]) (fun _=>[]) (fun y=>l.length-y.1) ⟨0,by omega,rfl⟩ (by simp only [Agree,go_sem,simprocAttr];first|done|rfl) rfl ?_
 rintro⟨k,hk,hinv⟩
 dsimp only
 by_cases hlt:k<l.length
 ·have hlt2:decide ((k:Int)<((l.length:Nat):Int))=true:=decide_eq_true (by omega)
  obtain⟨z,hz⟩:∃z,l[k]? = some z:=⟨_,List.getElem?_eq_getElem hlt⟩
  have hzm:z∈l:=List.mem_of_getElem? hz
  have hzt:=take_snocA hz
  have hix:∀q2,ixD (some 4) q2 (.a (.sl (l.map Ex.at))) (.a (.v (.int .i64 (k:Int))))=some (.a (.ref (Ex.at z) 0)):=fun q2=>ixD_at rfl (by rw [List.getElem?_map,hz];rfl) (by simp only [go_sem])
  have hw:k<9223372036854775807:=by omega
  have hwu:=wrap64n (k:=k) (by omega)
  replace fx:=And.intro hlt2 (And.intro hix (And.intro hwu (And.intro hcd (And.intro hld trivial))))
  repeat' (first|refine stp [0,1,4,5,7,8,9,16] ?_|(refine stc (r1:=by exact hf z hzm) (r2:=?_);refine rnx ?_)|refine WP.cn (fun hc=>?_) (fun hc=>?_)|fail)
  ·rw [ixOf_at q l k 0 z hz hinv hc,Nat.zero_add]
  ·refine⟨⟨k+1,by omega,by rw [hzt,List.any_append,hinv];simpa using hc⟩,by dsimp only;omega,?_,rfl⟩
   simp only [Agree,go_sem,simprocAttr]
 obtain rfl:k=l.length:=by omega
 rw [List.take_length] at hinv
 have hlt2:decide ((l.length:Int)<(l.length:Int))=false:=decide_eq_false (by omega)
 replace fx:=And.intro hlt2 trivial
 repeat' (first|refine stp [0,1,4,5,7,8,9,16] ?_|refine WP.cn (fun hc=>?_) (fun hc=>?_)|fail)
 rw [ixOf_none q l 0 hinv]
theorem pCfExpr (q:Ex→Bool) (l:List (Ex)) (fn:FuncId) (caps:List A) (hcl:caps.all clA=true) (hn:l.length≤1048576) (hf:∀k∈l,DPure Tryd.prog fn (.r (Ex.at k)::caps.map D.a) (.a (.v (.bool (q k))))):DPure Tryd.prog 30 [.a (.sl (l.map Ex.at)),.a (.fn fn caps)] (.a (.v (.bool (l.any q)))):=by
 have hcd:=cap_ok0 hcl
 have hld:=cap_ld0 hcl
 refine DPure.go Tryd.func30 rfl Tryd.ntmps30 rfl rfl rfl (fun C hro=>?_)
 have fx:=trivial
 replace fx:=And.intro hcd (And.intro hld trivial)
 repeat' (first|refine stp [0,1,4] ?_|(refine stc (r1:=by exact pIxExpr q l fn caps hcl hn hf) (r2:=?_);refine rnx ?_)|fail)
 exact bool_eq (ixOf_any q l 0)
theorem pwName (t:List UInt8) (h:t.length≤1000000000):DPure Tryd.prog 35 [.a (.v (.string (bs t)))] (.a (.v (.bool (nameB t)))):=by
 have:=DPure.scal (P:=Tryd.prog) (f:=35) (xs:=[.string (bs t)]) (z:=.bool (nameB t)) (callFunc_of Tryd.func35 rfl rfl) rfl fun w hw=>by
  have:=wName_any w (bs t) h (hw w (Nat.le_refl _) fun _ _=>rfl).wd
  rw [bs_data] at this
  exact this
 exact this
theorem deep_kids (e:Ex) (left:Int) (h:0<left):(!e.kids.any fun k=>!decide ((k.deep:Int)≤left-1))=decide ((e.deep:Int)≤left):=by
 have hd:=e.deep_eq
 have up:∀l:List Ex,(∀x∈l,(x.deep:Int)≤left-1)→(Ex.deeps l:Int)≤left-1:=by
  intro l
  induction l with
  | nil=>intro _;rw [Ex.deeps];omega
  | cons x r ih=>intro hx;rw [Ex.deeps];have:=hx x (by simp);have:=ih fun y hy=>hx y (by simp [hy]);omega
 have dn:∀(l:List Ex) (x:Ex),x∈l→x.deep≤Ex.deeps l:=by
  intro l x
  induction l with
  | nil=>intro h;simp at h
  | cons y r ih =>
   intro h;rw [Ex.deeps]
   rcases List.mem_cons.1 h with rfl|h
   ·omega
   ·have:=ih h;omega
 by_cases hk:(e.deep:Int)≤left
 ·rw [decide_eq_true hk,Bool.not_eq_true',List.any_eq_false]
  intro x hx
  have:=dn _ _ hx
  rw [decide_eq_true (by omega)];simp
 ·rw [decide_eq_false hk,Bool.not_eq_false',List.any_eq_true]
  apply Classical.byContradiction
  intro hn
  refine hk ?_
  have:=up e.kids fun x hx=>Classical.byContradiction fun hx2=>hn ⟨x,hx,by rw [decide_eq_false hx2];rfl⟩
  omega
@[go_sem] theorem clA_val (x:Value):clA (.v x)=true:=rfl
@[go_sem] theorem ldRow_one (y:A):ldRow none [y] 0=some (.a y):=rfl
theorem peDeep:∀(m:Nat) (e:Ex) (left:Int),e.sz≤m→e.sz≤1048576→0≤left→left≤1048576→DPure Tryd.prog 15 [.r (Ex.at e),.a (.v (.int .i64 left))] (.a (.v (.bool (decide ((e.deep:Int)≤left)))))
 | 0,e,_,h,_,_,_=>by have:=e.sz_pos;omega
 | m+1,e,left,h,hz0,h0,h1=>by
  have hlen:e.kids.length≤1048576:=by have:=Ex.szs_len e.kids;have:=e.sz_eq;omega
  have hd:=e.deep_eq
  by_cases hl:left=0
  ·subst hl
   refine DPure.go Tryd.func15 rfl Tryd.ntmps15 rfl rfl rfl (fun C hro=>?_)
   have fx:=trivial
   repeat' (first|refine WP.seq ?_|(refine WP.reg [0,1,2,3,4,6] (by kernel_rfl) (by kernel_rfl) ?_;refine RS.run2 (by simp only [go_sem,simprocAttr,thenQ_n,beq_self_eq_true];first|done|rfl) ?_;simp only [RSr_mk])|(first|refine RS.finT (by simp only [go_sem,simprocAttr];first|done|rfl) ?_|refine RS.fin (by simp only [go_sem,simprocAttr];first|done|rfl) ?_;(try simp only [thenQ_n,blockQ_n]))|(refine RS.callL (by simp only [go_sem,simprocAttr,thenQ_n,beq_self_eq_true];first|done|rfl) (by simp only [go_sem,simprocAttr,List.all_cons,List.all_nil,Bool.and_true,thenQ_n,beq_self_eq_true]) (by fail) ?_;refine RS.run2 (by simp only [go_sem,simprocAttr,thenQ_n,beq_self_eq_true];first|done|rfl) ?_;simp only [RSr_mk])|(refine RS.callvL (by simp only [go_sem,simprocAttr,thenQ_n,beq_self_eq_true];first|done|rfl) (by simp only [go_sem,simprocAttr,thenQ_n,beq_self_eq_true];first|done|rfl) (by simp only [go_sem,simprocAttr,List.all_cons,List.all_nil,Bool.and_true,thenQ_n,beq_self_eq_true]) (by fail) ?_;refine RS.run2 (by simp only [go_sem,simprocAttr,thenQ_n,beq_self_eq_true];first|done|rfl) ?_;simp only [RSr_mk])|((refine WP.cond rfl (by simp only [go_sem,simprocAttr,thenQ_n,beq_self_eq_true];first|done|rfl) (fun hc=>?_) (fun hc=>?_))<;>try exact Bool.noConfusion hc)|(refine WP.skip ?_;(try simp only [thenQ_n,blockQ_n]))|(refine WP.exit ?_;(try simp only [thenQ_e,blockQ_e,blockQ_o,ne_eq,Nat.reduceEqDiff,not_false_eq_true,reduceCtorEq,thenQ_n,blockQ_n]))|refine WP.block ?_|(refine WP.ret ?_;(try simp only [thenQ_r,blockQ_r]);refine ret1 rfl (by simp only [go_sem,simprocAttr,thenQ_n,beq_self_eq_true];first|done|rfl) (by simp only [go_sem,thenQ_n,beq_self_eq_true]) ?_)|(fail;simp only [List.take_succ_cons,List.take_zero,List.drop_succ_cons,List.drop_zero,List.take_nil,List.drop_nil];refine RQ.run2 (by simp only [go_sem,simprocAttr,thenQ_n,beq_self_eq_true];first|done|rfl) ?_;simp only [RQr_mk])|(refine RQ.nil ?_;refine RS.run2 (by simp only [go_sem,simprocAttr,thenQ_n,beq_self_eq_true];first|done|rfl) ?_;simp only [RSr_mk])|(refine RQ.callL (by simp only [go_sem,simprocAttr,thenQ_n,beq_self_eq_true];first|done|rfl) (by simp only [go_sem,simprocAttr,List.all_cons,List.all_nil,Bool.and_true,thenQ_n,beq_self_eq_true]) (by fail) ?_;refine RQ.run2 (by simp only [go_sem,simprocAttr,thenQ_n,beq_self_eq_true];first|done|rfl) ?_;simp only [RQr_mk])|(refine RQ.callvL (by simp only [go_sem,simprocAttr,thenQ_n,beq_self_eq_true];first|done|rfl) (by simp only [go_sem,simprocAttr,thenQ_n,beq_self_eq_true];first|done|rfl) (by simp only [go_sem,simprocAttr,List.all_cons,List.all_nil,Bool.and_true,thenQ_n,beq_self_eq_true]) (by fail) ?_;refine RQ.run2 (by simp only [go_sem,simprocAttr,thenQ_n,beq_self_eq_true];first|done|rfl) ?_;simp only [RQr_mk]))
   refine bool_eq ?_
   rw [eq_comm,decide_eq_false_iff_not];omega
  ·have hlb:(left==0)=false:=by simpa using hl
   have hwl:IntKind.i64.wrap (left-1)=left-1:=wrap64 (by omega) (by omega)
   have IH:∀k∈e.kids,DPure Tryd.prog 15 [.r (Ex.at k),.a (.v (.int .i64 (left-1)))] (.a (.v (.bool (decide ((k.deep:Int)≤left-1))))):=fun k hk=>peDeep m k _ (by have:=Ex.kid_lt hk;omega) (by have:=Ex.kid_lt hk;omega) (by omega) (by omega)
   have I1:∀k∈e.kids,DPure Tryd.prog 31 [.r (Ex.at k),.a (.ref [.v (.int .i64 left)] 0)] (.a (.v (.bool (!decide ((k.deep:Int)≤left-1))))):=fun k hk=>by
    have:=IH k hk
    refine DPure.go Tryd.func31 rfl Tryd.ntmps31 rfl rfl rfl (fun C hro=>?_)
    have fx:=trivial
    replace fx:=And.intro hwl trivial
    repeat' (first|refine stp [0,1,2,3] ?_|(refine stc (r1:=by exact this) (r2:=?_);refine rnx ?_)|fail)
    rfl
   refine DPure.go Tryd.func15 rfl Tryd.ntmps15 rfl rfl rfl (fun C hro=>?_)
   have fx:=trivial
   replace fx:=And.intro hlb trivial
   repeat' (first|refine stp [0,1,2,3,4,6] ?_|(refine stc (r1:=by exact pCfExpr (fun k=>!decide ((k.deep:Int)≤left-1)) e.kids 31 [.ref [.v (.int .i64 left)] 0] rfl hlen I1) (r2:=?_);refine rnx ?_)|refine WP.cn (fun hc=>?_) (fun hc=>?_)|fail)
   exact bool_eq (deep_kids e left (by omega))
def kidsP (k:Int):Int:=if k=1∨k=2∨k=3∨k=4∨k=5 then 0 else if k=12∨k=13 then 1 else if k=6∨k=7∨k=8∨k=9∨k=10∨k=11∨k=14 then 2 else -1
theorem peKids (k:Int):DPure Tryd.prog 34 [.a (.v (.int .i64 k))] (.a (.v (.int .i64 (kidsP k)))):=by
 by_cases hin:1≤k∧k≤14
 ·have:k=1∨k=2∨k=3∨k=4∨k=5∨k=6∨k=7∨k=8∨k=9∨k=10∨k=11∨k=12∨k=13∨k=14:=by omega
  clear hin
  rcases this with rfl|rfl|rfl|rfl|rfl|rfl|rfl|rfl|rfl|rfl|rfl|rfl|rfl|rfl
  all_goals
   refine DPure.go Tryd.func34 rfl Tryd.ntmps34 rfl rfl rfl (fun C hro=>?_)
   have fx:=trivial
   repeat' (first|refine stp [0,2,3,4,10,13] ?_|refine WP.cn (fun hc=>?_) (fun hc=>?_)|fail)
   rfl
 ·have h1:=beqF (show k≠1 by omega)
  have h2:=beqF (show k≠2 by omega)
  have h3:=beqF (show k≠3 by omega)
  have h4:=beqF (show k≠4 by omega)
  have h5:=beqF (show k≠5 by omega)
  have h6:=beqF (show k≠6 by omega)
  have h7:=beqF (show k≠7 by omega)
  have h8:=beqF (show k≠8 by omega)
  have h9:=beqF (show k≠9 by omega)
  have h10:=beqF (show k≠10 by omega)
  have h11:=beqF (show k≠11 by omega)
  have h12:=beqF (show k≠12 by omega)
  have h13:=beqF (show k≠13 by omega)
  have h14:=beqF (show k≠14 by omega)
  refine DPure.go Tryd.func34 rfl Tryd.ntmps34 rfl rfl rfl (fun C hro=>?_)
  have fx:=trivial
  replace fx:=And.intro h1 (And.intro h2 (And.intro h3 (And.intro h4 (And.intro h5 (And.intro h6 (And.intro h7 (And.intro h8 (And.intro h9 (And.intro h10 (And.intro h11 (And.intro h12 (And.intro h13 (And.intro h14 trivial)))))))))))))
  repeat' (first|refine stp [0,2,3,4,10,13] ?_|refine WP.cn (fun hc=>?_) (fun hc=>?_)|fail)
  refine int_eq ?_
  unfold kidsP
  rw [if_neg (by omega),if_neg (by omega),if_neg (by omega)]
theorem retG0 {P:Program} {n:Nat} {O:D→List Bx→D→Prop} {e:Nat→D} {st:List Bx} (h:O (.t []) st (e 1000000)):retG P n [] O .ret e st:=⟨.t [],⟨[],rfl,rfl,rfl⟩,rfl,h⟩
theorem retG0n {P:Program} {n:Nat} {O:D→List Bx→D→Prop} {e:Nat→D} {st:List Bx} (h:O (.t []) st (e 1000000)):retG P n [] O .normal e st:=⟨.t [],⟨[],rfl,rfl,rfl⟩,rfl,h⟩
theorem take_snoc1 {α:Type} {l:List α} {m:Nat} {p:α} (h:l[m]? = some p):l.take (m+1)=l.take m++[p]:=by
 obtain⟨h1,h2⟩:=List.getElem?_eq_some_iff.1 h
 rw [List.take_add_one,h];rfl
def bwdL {α:Type} (f:α→List A) (l:List α):List (List D):=(List.range l.length).map fun k=>[.a (.v (.int .i64 ((l.length-1-k:Nat):Int))),.r ((l[l.length-1-k]?.map f).getD [])]
theorem bwdL_at {α:Type} (f:α→List A) (l:List α) {k:Nat} {z:α} (hk:k<l.length) (hz:l[l.length-1-k]? = some z):(bwdL f l)[k]? = some [.a (.v (.int .i64 ((l.length-1-k:Nat):Int))),.r (f z)]:=by
 unfold bwdL
 rw [List.getElem?_map,List.getElem?_range hk,Option.map_some,hz];rfl
theorem bwdL_get {α:Type} {f:α→List A} {l:List α} {k:Nat} {xs:List D} (h:(bwdL f l)[k]? = some xs):∃z,l.reverse[k]? = some z∧xs=[.a (.v (.int .i64 ((l.length-1-k:Nat):Int))),.r (f z)]:=by
 unfold bwdL at h
 rw [List.getElem?_map,Option.map_eq_some_iff] at h
 obtain⟨j,hj,rfl⟩:=h
 obtain⟨h1,h2⟩:=List.getElem?_eq_some_iff.1 hj
 rw [List.length_range] at h1
 rw [List.getElem_range] at h2
 subst h2
 have h3:k<l.reverse.length:=by simpa using h1
 refine⟨l.reverse[k],List.getElem?_eq_getElem h3,?_⟩
 have h4:l[l.length-1-k]? = some l.reverse[k]:=by
  rw [List.getElem_reverse];exact List.getElem?_eq_getElem _
 rw [h4];rfl
theorem pBwd (l:List Ex):DPure Tryd.prog 33 [.a (.sl (l.map Ex.at))] (.a (.fn 48 [.ref [.sl (l.map Ex.at)] 0])):=by
 refine DPure.go Tryd.func33 rfl Tryd.ntmps33 rfl rfl rfl (fun C hro=>?_)
 have fx:=trivial
 repeat' (first|refine WP.seq ?_|(refine WP.reg [0,1,2] (by kernel_rfl) (by kernel_rfl) ?_;refine RS.run2 (by simp only [go_sem,simprocAttr,thenQ_n];first|done|rfl) ?_;simp only [RSr_mk])|(first|refine RS.finT (by simp only [go_sem,simprocAttr];first|done|rfl) ?_|refine RS.fin (by simp only [go_sem,simprocAttr];first|done|rfl) ?_;(try simp only [thenQ_n,blockQ_n])))
 refine WP.freeze 0 [.sl (l.map Ex.at)] [(2,.a (.fn 48 [.ref [.sl (l.map Ex.at)] 0]))] rfl rfl ?_ ?_
 ·simp only [Agree,go_sem,simprocAttr]
 refine WP.ret ?_;(try simp only [thenQ_r,blockQ_r]);refine ret1 rfl (by simp only [go_sem,simprocAttr,thenQ_n];first|done|rfl) (by simp only [go_sem,thenQ_n]) ?_
 rfl
theorem pBwd1 (l:List Ex) (hl:l.length≤1048576):DIt Tryd.prog 48 [.ref [.sl (l.map Ex.at)] 0] (bwdL Ex.at l):=by
 intro E hE
 have hbl:(bwdL Ex.at l).length=l.length:=by simp [bwdL]
 have hw0:IntKind.i64.wrap ((l.length:Nat)-1:Int)=(l.length:Int)-1:=wrap64 (by omega) (by omega)
 refine DG.intro Tryd.func48 rfl Tryd.ntmps48 rfl rfl rfl (fun V0 Kb Nx=>?_)
 repeat' (first|refine WP.seq ?_|(refine WP.reg (1000000::[0,1,3,8,18]) (by kernel_rfl) (by kernel_rfl) ?_;refine RS.run2 (by simp only [go_sem,simprocAttr,hw0];first|done|rfl) ?_;simp only [RSr_mk])|(first|refine RS.finT (by simp only [go_sem,simprocAttr];first|done|rfl) ?_|refine RS.fin (by simp only [go_sem,simprocAttr];first|done|rfl) ?_;(try simp only [thenQ_n,blockQ_n]))|refine WP.block ?_)
 refine WP.loop (α:={ k:Nat // k≤l.length }) (fun y=>[(0,yv E.l),(1,.a (.ref [.sl (l.map Ex.at)] 0)),(3,.a (.v (.int .i64 ((l.length:Int)-1-(y.1:Nat))))),(1000000,.a (.v (.int .i64 (y.1:Nat))))]) (fun _=>[]) (fun y=>l.length-y.1) ⟨0,by omega⟩ (by simp only [Agree,go_sem,simprocAttr];first|done|simp) rfl ?_
 rintro⟨k,hk⟩
 dsimp only
 by_cases hlt:k<l.length
 ·have hge:decide ((l.length:Int)-1-(k:Nat)≥0)=true:=decide_eq_true (by omega)
  have hj:(l.length:Int)-1-(k:Nat)=((l.length-1-k:Nat):Int):=by omega
  obtain⟨z,hz⟩:∃z,l[l.length-1-k]? = some z:=⟨_,List.getElem?_eq_getElem (by omega)⟩
  have hix:∀q2,ixD (some 4) q2 (.a (.sl (l.map Ex.at))) (.a (.v (.int .i64 ((l.length-1-k:Nat):Int))))=some (.a (.ref (Ex.at z) 0)):=fun q2=>ixD_at rfl (by rw [List.getElem?_map,hz];rfl) (by simp only [go_sem])
  have hw1:IntKind.i64.wrap (((l.length-1-k:Nat):Int)-1)=(l.length:Int)-1-((k+1:Nat):Int):=(wrap64 (by omega) (by omega)).trans (by omega)
  have hgs:decide (((l.length-1-k:Nat):Int)≥0)=true:=decide_eq_true (by omega)
  rw [hj]
  repeat' (first|refine WP.seq ?_|(refine WP.reg (1000000::[0,1,3,8,18]) (by kernel_rfl) (by kernel_rfl) ?_;refine RS.run2 (by simp only [go_sem,simprocAttr,hix,hw1,hgs];first|done|rfl) ?_;simp only [RSr_mk])|(first|refine RS.finT (by simp only [go_sem,simprocAttr];first|done|rfl) ?_|refine RS.fin (by simp only [go_sem,simprocAttr];first|done|rfl) ?_;(try simp only [thenQ_n,blockQ_n]))|refine WP.block ?_|((refine WP.cond rfl (by simp only [go_sem,simprocAttr,hgs];first|done|rfl) (fun hc=>?_) (fun hc=>?_))<;>try exact Bool.noConfusion hc)|(refine WP.skip ?_;(try simp only [thenQ_n,blockQ_n]))|(refine WP.exit ?_;(try simp only [thenQ_e,blockQ_e,blockQ_o,ne_eq,Nat.reduceEqDiff,not_false_eq_true,reduceCtorEq,thenQ_n,blockQ_n]))|(refine RS.yield (by simp only [go_sem,simprocAttr,hix];first|done|rfl) (by simp only [go_sem,simprocAttr,hix];first|done|rfl) (by simp only [go_sem,simprocAttr,hix];first|done|rfl) (by simp only [go_sem,simprocAttr,List.all_cons,List.all_nil,Bool.and_true,hix];first|done|rfl) (by rw [hE];exact bwdL_at Ex.at l hlt hz) ?_ ?_;all_goals refine RS.run2 (by simp only [go_sem,simprocAttr,hix];first|done|rfl) ?_;simp only [RSr_mk])|(refine WP.ret ?_;(try simp only [thenQ_r,blockQ_r]);(first|refine retG0 ?_|refine retG1 rfl (by simp only [go_sem,simprocAttr,hix];first|done|rfl) ?_);simp only [go_sem,simprocAttr,hix]))
  ·refine⟨⟨k+1,by omega⟩,by dsimp only;omega,?_,rfl⟩
   simp only [Agree,go_sem,simprocAttr,and_true,and_self]
  ·exact .inr trivial
 ·obtain rfl:k=l.length:=by omega
  have hge:decide ((l.length:Int)-1-(l.length:Nat)≥0)=false:=decide_eq_false (by omega)
  repeat' (first|refine WP.seq ?_|(refine WP.reg (1000000::[0,1,3,8,18]) (by kernel_rfl) (by kernel_rfl) ?_;refine RS.run2 (by simp only [go_sem,simprocAttr,hge];first|done|rfl) ?_;simp only [RSr_mk])|(first|refine RS.finT (by simp only [go_sem,simprocAttr];first|done|rfl) ?_|refine RS.fin (by simp only [go_sem,simprocAttr];first|done|rfl) ?_;(try simp only [thenQ_n,blockQ_n]))|refine WP.block ?_|((refine WP.cond rfl (by simp only [go_sem,simprocAttr,hge];first|done|rfl) (fun hc=>?_) (fun hc=>?_))<;>try exact Bool.noConfusion hc)|(refine WP.skip ?_;(try simp only [thenQ_n,blockQ_n]))|(refine WP.exit ?_;(try simp only [thenQ_e,blockQ_e,blockQ_o,ne_eq,Nat.reduceEqDiff,not_false_eq_true,reduceCtorEq,thenQ_n,blockQ_n]))|(refine WP.ret ?_;(try simp only [thenQ_r,blockQ_r]);(first|refine retG0 ?_|refine retG1 rfl (by simp only [go_sem,simprocAttr,hge];first|done|rfl) ?_);simp only [go_sem,simprocAttr,hge]))
  exact retG0n (.inl (by simp only [go_sem,hbl]))
theorem peAll (e:Ex):DPure Tryd.prog 16 [.r (Ex.at e)] (.a (.fn 32 [.ref (Ex.at e) 0])):=by
 refine DPure.go Tryd.func16 rfl Tryd.ntmps16 rfl rfl rfl (fun C hro=>?_)
 have fx:=trivial
 repeat' (first|refine WP.seq ?_|(refine WP.reg [0,1,2] (by kernel_rfl) (by kernel_rfl) ?_;refine RS.run2 (by simp only [go_sem,simprocAttr,thenQ_n];first|done|rfl) ?_;simp only [RSr_mk])|(first|refine RS.finT (by simp only [go_sem,simprocAttr];first|done|rfl) ?_|refine RS.fin (by simp only [go_sem,simprocAttr];first|done|rfl) ?_;(try simp only [thenQ_n,blockQ_n])))
 refine WP.freeze 0 (Ex.at e) [(2,.a (.fn 32 [.ref (Ex.at e) 0]))] rfl (Ex.cl e) ?_ ?_
 ·simp only [Agree,go_sem,simprocAttr]
 refine WP.ret ?_;(try simp only [thenQ_r,blockQ_r]);refine ret1 rfl (by simp only [go_sem,simprocAttr,thenQ_n];first|done|rfl) (by simp only [go_sem,thenQ_n]) ?_
 rfl
mutual
def Ex.pre:Ex→List Ex
 | ⟨kind,num,name,kids⟩=>⟨kind,num,name,kids⟩::Ex.pres kids
def Ex.pres:List Ex→List Ex
 | []=>[]
 | e::r=>Ex.pre e++Ex.pres r
end
theorem Ex.pre_eq (e:Ex):e.pre=e::Ex.pres e.kids:=by cases e;rfl
theorem Ex.pres_app (l m:List Ex):Ex.pres (l++m)=Ex.pres l++Ex.pres m:=by
 induction l with
 | nil=>rfl
 | cons x l ih=>rw [List.cons_append,Ex.pres,Ex.pres,ih,List.append_assoc]
theorem Ex.pres_len (l:List Ex):l.length≤(Ex.pres l).length:=by
 induction l with
 | nil=>exact Nat.le_refl _
 | cons x l ih=>rw [Ex.pres,Ex.pre_eq];simp;omega
theorem Ex.zlit:[A.v (.int .i64 0),.v (.int .i64 0),.v (.string ⟨#[]⟩),.sl []]=Ex.at Ex.zero:=by simp only [Ex.zero,Ex.at,Ex.ats];rfl
def preL (l:List Ex):List (List D):=l.map fun x=>[.r (Ex.at x)]
structure AllS (e:Ex) where
 k:Nat
 ver:Nat
 s:List Ex
 h:e.pre.drop k=Ex.pres s.reverse
 hk:k≤e.pre.length
theorem peAll1 (e:Ex) (he:e.pre.length≤1048576):DIt Tryd.prog 32 [.ref (Ex.at e) 0] (preL e.pre):=by
 intro E hE
 refine DG.intro Tryd.func32 rfl Tryd.ntmps32 rfl rfl rfl (fun V0 Kb Nx=>?_)
 repeat' (first|refine WP.seq ?_|(refine WP.reg (1000000::[0,1,3,4,6,11,26,29,30,31]) (by kernel_rfl) (by kernel_rfl) ?_;refine RS.run2 (by simp only [go_sem,simprocAttr,thenQ_n];first|done|rfl) ?_;simp only [RSr_mk])|(first|refine RS.finT (by simp only [go_sem,simprocAttr];first|done|rfl) ?_|refine RS.fin (by simp only [go_sem,simprocAttr];first|done|rfl) ?_;(try simp only [thenQ_n,blockQ_n]))|(refine RS.lit (by simp only [go_sem];first|done|rfl) (by decide) (by decide) (by simp only [go_sem];first|done|rfl) (by simp only [go_sem];first|done|rfl) (by simp only [go_sem];first|done|rfl) (by simp only [go_sem];first|done|rfl) (by decide) (by simp only [go_sem,simprocAttr,List.replicate_succ,List.replicate_zero,thenQ_n];first|done|rfl) ?_;refine RS.run2 (by simp only [go_sem,simprocAttr,thenQ_n];first|done|rfl) ?_;simp only [RSr_mk])|refine WP.block ?_)
 refine WP.loopX (α:=AllS e) (fun y=>[(0,yv E.l),(1,.a (.ref (Ex.at e) 0)),(3,.a (.ptr 1 0)),(1000000,.a (.v (.int .i64 (y.k:Nat))))]) (fun y=>[.arr y.ver 4 (y.s.map Ex.at),.cell [.own 0 y.ver]]) (fun y=>e.pre.length-y.k) ⟨0,0,[e],by simp only [List.drop_zero,List.reverse_singleton,Ex.pres,List.append_nil],Nat.zero_le _⟩ (by simp only [Agree,go_sem,simprocAttr];first|done|simp) (by first|done|rfl) ?_
 rintro⟨k,ver,s,h,hk⟩
 dsimp only
 rcases List.eq_nil_or_concat s with rfl|⟨s',x,rfl⟩
 ·have hke:k=e.pre.length:=by
   rw [List.reverse_nil,Ex.pres,List.drop_eq_nil_iff] at h;omega
  subst hke
  have hel:(preL e.pre).length=e.pre.length:=by simp [preL]
  repeat' (first|refine WP.seq ?_|(refine WP.reg (1000000::[0,1,3,4,6,11,26,29,30,31]) (by kernel_rfl) (by kernel_rfl) ?_;refine RS.run2 (by simp only [go_sem,simprocAttr,thenQ_n];first|done|rfl) ?_;simp only [RSr_mk])|(first|refine RS.finT (by simp only [go_sem,simprocAttr];first|done|rfl) ?_|refine RS.fin (by simp only [go_sem,simprocAttr];first|done|rfl) ?_;(try simp only [thenQ_n,blockQ_n]))|refine WP.block ?_|((refine WP.cond rfl (by simp only [go_sem,simprocAttr,thenQ_n];first|done|rfl) (fun hc=>?_) (fun hc=>?_))<;>try exact Bool.noConfusion hc)|(refine WP.skip ?_;(try simp only [thenQ_n,blockQ_n]))|(refine WP.exit ?_;(try simp only [thenQ_e,blockQ_e,blockQ_o,ne_eq,Nat.reduceEqDiff,not_false_eq_true,reduceCtorEq,thenQ_n,blockQ_n]))|(refine WP.ret ?_;(try simp only [thenQ_r,blockQ_r]);(first|refine retG0 ?_|refine retG1 rfl (by simp only [go_sem,simprocAttr,thenQ_n];first|done|rfl) ?_);simp only [go_sem,simprocAttr,thenQ_n]))
  all_goals exact retG0n (.inl (by simp only [go_sem,hel]))
 ·rw [List.concat_eq_append] at h ⊢
  have hrev:Ex.pres (s'++[x]).reverse=x::(Ex.pres x.kids++Ex.pres s'.reverse):=by
   rw [List.reverse_append,List.reverse_singleton,List.singleton_append,Ex.pres,Ex.pre_eq,List.cons_append]
  rw [hrev] at h
  have hk1:e.pre[k]? = some x:=by
   have:=congrArg (fun l=>l[0]?) h
   simpa [List.getElem?_drop] using this
  have hkl:k<e.pre.length:=(List.getElem?_eq_some_iff.1 hk1).1
  have hd1:e.pre.drop (k+1)=Ex.pres x.kids++Ex.pres s'.reverse:=by
   have:=congrArg (List.drop 1) h
   simpa [List.drop_drop] using this
  have hsl:s'.length≤1048576:=by
   have h1:=congrArg List.length h
   have h2:=Ex.pres_len s'.reverse
   simp at h1 h2;omega
  have hkn:x.kids.length≤1048576:=by
   have h1:=congrArg List.length h
   have h2:=Ex.pres_len x.kids
   simp at h1;omega
  have htl:E.tl[k]? = some [.r (Ex.at x)]:=by rw [hE,preL,List.getElem?_map,hk1];rfl
  have hgt:decide (((s'++[x]).length:Int)>0)=true:=decide_eq_true (by simp only [List.length_append,List.length_singleton];omega)
  have hw:IntKind.i64.wrap (((s'++[x]).length:Nat)-1:Int)=((s'.length:Nat):Int):=(wrap64 (by simp only [List.length_append,List.length_singleton];omega) (by simp only [List.length_append,List.length_singleton];omega)).trans (by simp only [List.length_append,List.length_singleton];omega)
  have hgx:((s'++[x]).map Ex.at)[s'.length]? = some (Ex.at x):=by simp
  have hle:((s'.length:Nat):Int)≤(((s'++[x]).length:Nat):Int):=by simp only [List.length_append,List.length_singleton];omega
  have htk:((s'++[x]).map Ex.at).take s'.length=s'.map Ex.at:=by simp [List.map_append,List.take_append_of_le_length]
  have hixo:∀q2 r,ixS (.arr ver 4 ((s'++[x]).map Ex.at)::r) (some 4) q2 (.a (.own 0 ver)) (.a (.v (.int .i64 (s'.length:Nat))))=some (.a (.ep 0 ver s'.length 0)):=fun q2 r=>ixS_own rfl rfl (by simp) rfl
  repeat' (first|refine WP.seq ?_|(refine WP.reg (1000000::[0,1,3,4,6,11,26,29,30,31]) (by kernel_rfl) (by kernel_rfl) ?_;refine RS.run2 (by simp only [go_sem,simprocAttr,hgt,hw,hgx,hle,htk,hixo];first|done|rfl) ?_;simp only [RSr_mk])|(first|refine RS.finT (by simp only [go_sem,simprocAttr];first|done|rfl) ?_|refine RS.fin (by simp only [go_sem,simprocAttr];first|done|rfl) ?_;(try simp only [thenQ_n,blockQ_n]))|(refine RS.pop (by simp only [go_sem,simprocAttr,hgt,hw,hgx,hle,htk,hixo];first|done|rfl) (by simp only [go_sem,simprocAttr,hgt,hw,hgx,hle,htk,hixo];first|done|rfl) (by simp only [go_sem];first|done|rfl) (by simp only [go_sem,simprocAttr,bndD,hgt,hw,hgx,hle,htk,hixo];first|done|rfl) (by simp only [go_sem,simprocAttr,hgt,hw,hgx,hle,htk,hixo];first|done|rfl) ?_;refine RS.run2 (by simp only [go_sem,simprocAttr,hgt,hw,hgx,hle,htk,hixo];first|done|rfl) ?_;simp only [RSr_mk])|refine WP.block ?_|((refine WP.cond rfl (by simp only [go_sem,simprocAttr,hgt];first|done|rfl) (fun hc=>?_) (fun hc=>?_))<;>try exact Bool.noConfusion hc)|(refine WP.skip ?_;(try simp only [thenQ_n,blockQ_n]))|(refine WP.exit ?_;(try simp only [thenQ_e,blockQ_e,blockQ_o,ne_eq,Nat.reduceEqDiff,not_false_eq_true,reduceCtorEq,thenQ_n,blockQ_n]))|(refine RS.yield (by simp only [go_sem,simprocAttr,hgt];first|done|rfl) (by simp only [go_sem,simprocAttr,hgt];first|done|rfl) (by simp only [go_sem,simprocAttr,hgt];first|done|rfl) (by simp only [go_sem,simprocAttr,List.all_cons,List.all_nil,Bool.and_true,hgt];first|done|rfl) (by exact htl) ?_ ?_;all_goals refine RS.run2 (by simp only [go_sem,simprocAttr,hgt];first|done|rfl) ?_;simp only [RSr_mk])|(refine WP.ret ?_;(try simp only [thenQ_r,blockQ_r]);(first|refine retG0 ?_|refine retG1 rfl (by simp only [go_sem,simprocAttr,hgt];first|done|rfl) ?_);simp only [go_sem,simprocAttr,hgt])|(refine RS.call (by simp only [go_sem,simprocAttr,hgt];first|done|rfl) (by simp only [go_sem,List.all_cons,List.all_nil,Bool.and_true,hgt]) (by exact pBwd x.kids) ?_;refine RS.run2 (by simp only [go_sem,simprocAttr,hgt];first|done|rfl) ?_;simp only [RSr_mk]))
  ·refine WP.range [(0,yv E.l),(1,.a (.ref (Ex.at e) 0)),(3,.a (.ptr 1 0)),(4,.a (.ptr 2 0)),(29,.a (.fn 48 [.ref [.sl (x.kids.map Ex.at)] 0]))] (fun j=>[.arr (ver+1+j) 4 ((s'++x.kids.reverse.take j).map Ex.at),.cell [.own 0 (ver+1+j)],.cell (Ex.at x)]) (bwdL Ex.at x.kids) (.a (.v (.int .i64 ((k+1:Nat):Int)))) (fun _=>True) trivial rfl (by simp only [go_sem,simprocAttr]) rfl ?_ ?_ (fun _=>rfl) ?_ rfl rfl rfl (pBwd1 x.kids ?_) rfl rfl ?_ ?_ ?_
   ·simp only [Agree,go_sem,simprocAttr]
   ·simp only [List.take_zero,List.append_nil,Nat.add_zero]
   ·intro j
    simp only [go_sem,simprocAttr,nr_of_cl (Ex.cl x)]
   ·exact hkn
   ·intro j xs hxs
    obtain⟨_,_,rfl⟩:=bwdL_get hxs
    rfl
   ·intro C1 j xs hxs _
    obtain⟨z,hz,rfl⟩:=bwdL_get hxs
    have hjl:j<x.kids.length:=by have:=(List.getElem?_eq_some_iff.1 hz).1;simpa using this
    simp only [bindE_2]
    repeat' (first|refine WP.seq ?_|(refine WP.reg [0,1,3,4,6,11,26,29,30,31] (by kernel_rfl) (by kernel_rfl) ?_;refine RS.run2 (by simp only [go_sem,simprocAttr,thenQ_n];first|done|rfl) ?_;simp only [RSr_mk])|(first|refine RS.finT (by simp only [go_sem,simprocAttr];first|done|rfl) ?_|refine RS.fin (by simp only [go_sem,simprocAttr];first|done|rfl) ?_;(try simp only [thenQ_n,blockQ_n])))
    intro C2
    refine WP.block ?_
    obtain⟨L,hL⟩:∃L,L=s'++x.kids.reverse.take j:=⟨_,rfl⟩
    have hL1:s'++x.kids.reverse.take (j+1)=L++[z]:=by rw [hL,List.append_assoc,←take_snoc1 hz]
    have hLl:L.length≤2097152:=by rw [hL];simp;omega
    rw [hL1,←hL]
    have hix:∀q2 r,ixS (.arr (ver+1+j+1) 4 (L.map Ex.at++[Ex.zero.at])::r) (some 4) q2 (.a (.own 0 (ver+1+j+1))) (.a (.v (.int .i64 (L.length:Nat))))=some (.a (.ep 0 (ver+1+j+1) L.length 0)):=fun q2 r=>ixS_own rfl rfl (by simp) rfl
    have hgz:(L.map Ex.at++[Ex.zero.at])[L.length]? = some Ex.zero.at:=by simp
    have hsz:(L.map Ex.at++[Ex.zero.at]).set L.length z.at=L.map Ex.at++[z.at]:=by simp
    have hfin:L.map Ex.at++[z.at]=(L++[z]).map Ex.at:=by simp
    refine WP.drwT (id:=7) 4 [4,5,6,7] [0,1,3,4,6,11,26,29,30,31] (by kernel_rfl) rfl rfl (by kernel_rfl) tb_mix ?_
    simp only [List.take_succ_cons,List.take_zero]
    refine RQ.run2 (by simp only [go_sem,simprocAttr,hgz];first|done|rfl) ?_;simp only [RQr_mk]
    refine RQ.lit (by simp only [go_sem];first|done|rfl) (by decide) (by decide) (by simp only [go_sem];first|done|rfl) (by simp only [go_sem];first|done|rfl) (by simp only [go_sem];first|done|rfl) (by simp only [go_sem];first|done|rfl) (by decide) (by simp only [go_sem,simprocAttr,List.replicate_succ,List.replicate_zero,Ex.zlit];first|done|rfl) ?_;refine RQ.run2 (by simp only [go_sem,simprocAttr,Ex.zlit];first|done|rfl) ?_;simp only [RQr_mk]
    refine RQ.nil ?_
    repeat' (first|exact TA.nil|(refine TA.no ?_ ?_;(· exact rfl))|refine TA.yesL rfl rfl ?_ ?_|refine RT.go ?_|refine RS.nilT ?_|(refine RS.appO (by simp only [go_sem,simprocAttr,Ex.zlit,hix,hgz,hsz];first|done|rfl) (by simp only [go_sem,simprocAttr,Ex.zlit,hix,hgz,hsz];first|done|rfl) (by simp only [go_sem,simprocAttr,Ex.zlit,hix,hgz,hsz];first|done|rfl) (by simp only [go_sem];first|done|rfl) (by simp only [go_sem];first|done|rfl) (by simp only [go_sem];first|done|rfl) (by simp only [go_sem];first|done|rfl) (by simp only [go_sem,simprocAttr,allLen,List.all_cons,List.all_nil,Bool.and_true,Ex.zlit,hix,hgz,hsz];first|done|rfl) (by (simp only [List.length_map,List.length_cons,List.length_nil];omega)) (by (simp only [List.length_map,List.length_cons,List.length_nil];omega)) (by first|(simp only [go_sem,simprocAttr,Ex.zlit,hix,hgz,hsz];first|done|rfl)|rfl) ?_;refine RS.run2 (by simp only [go_sem,simprocAttr,Ex.zlit,hix,hgz,hsz];first|done|rfl) ?_;simp only [RSr_mk])|(refine RS.stoE (x:=.tmp 37) (by simp only [go_sem,simprocAttr,Ex.zlit,hix,hgz,hsz];first|done|rfl) (by simp only [go_sem,simprocAttr,Ex.zlit,hix,hgz,hsz];first|done|rfl) (by simp only [go_sem,simprocAttr,Ex.zlit,hix,hgz,hsz];first|done|rfl) (by simp only [go_sem,simprocAttr,Ex.zlit,hix,hgz,hsz];first|done|rfl) (by simp only [go_sem,simprocAttr,Ex.zlit,hix,hgz,hsz];first|done|rfl) (by simp only [go_sem,simprocAttr,Ex.zlit,hix,hgz,hsz];first|done|rfl) (by simp only [go_sem,simprocAttr,Ex.zlit,hix,hgz,hsz];first|done|decide|omega) (by simp only [go_sem,simprocAttr,Ex.zlit,hix,hgz,hsz];first|done|rfl) ?_;refine RS.run2 (by simp only [go_sem,simprocAttr,Ex.zlit,hix,hgz,hsz];first|done|rfl) ?_;simp only [RSr_mk])|(refine RT.done ?_)|(refine RS.run1 (by simp only [go_sem,simprocAttr,Ex.zlit,hix,hgz,hsz];first|done|rfl) ?_))
    all_goals exact⟨trivial,[.cell z.at],by simp only [hfin,Nat.add_assoc];rfl⟩
   ·intro _
    simp only [blockQ_n,thenQ_n]
    have hbl:(bwdL Ex.at x.kids).length=x.kids.reverse.length:=by simp [bwdL]
    refine⟨⟨k+1,ver+1+x.kids.length,s'++x.kids.reverse,?_,by omega⟩,[.cell (Ex.at x)],by dsimp only;omega,?_,?_,?_,?_⟩
    ·rw [hd1,List.reverse_append,List.reverse_reverse,Ex.pres_app]
    ·simp only [Agree,go_sem,simprocAttr]
    ·rw [hbl,List.take_length];simp
    ·rfl
    ·rfl
  ·exact .inr trivial
def kidP (k z:Int):Bool:=z != 2&&z != 3&&(z != 4||k==13)
def plainP (e:Ex):Bool :=
 if ((e.kids.length:Int) != kidsP e.kind||(e.kind != 1&&e.num != 0)||(e.kind != 2&&!(e.name==[])))=true then false
 else if e.kind=1 then decide (e.num≥0)&&decide (e.num≤999999999)
 else if e.kind=2 then nameB e.name
 else if e.kind=13∨e.kind=14 then !e.kids.any fun k=>kidP e.kind k.kind
 else true
theorem pePlain1 (e k:Ex):DPure Tryd.prog 36 [.r (Ex.at k),.a (.ref (Ex.at e) 0)] (.a (.v (.bool (kidP e.kind k.kind)))):=by
 refine DPure.go Tryd.func36 rfl Tryd.ntmps36 rfl rfl rfl (fun C hro=>?_)
 have fx:=trivial
 repeat' (first|refine stp [0,1,2,3] ?_|fail)
 exact bool_eq rfl
theorem pePlain (e:Ex) (hz:e.sz≤1048576):DPure Tryd.prog 17 [.r (Ex.at e)] (.a (.v (.bool (plainP e)))):=by
 have hlen:e.kids.length≤1048576:=by have:=Ex.szs_len e.kids;have:=e.sz_eq;omega
 have hnl:e.name.length≤1000000000:=by have:=e.sz_eq;omega
 refine DPure.go Tryd.func17 rfl Tryd.ntmps17 rfl rfl rfl (fun C hro=>?_)
 have fx:=trivial
 repeat' (first|refine stp [0,1,2,29,31,32,42,47] ?_|(refine stc (r1:=by first|exact peKids _|exact pwName _ hnl|exact pCfExpr (fun k=>kidP e.kind k.kind) e.kids 36 [.ref (Ex.at e) 0] rfl hlen fun k _=>pePlain1 e k) (r2:=?_);refine rnx ?_)|refine WP.cn (fun hc=>?_) (fun hc=>?_)|((first|refine WP.dw (id:=1) 27 [0,1,2,29,31,32,42,47] ?_);simp only [RQr_mk,List.drop_succ_cons,List.drop_zero,List.drop_nil])|fail)
 all_goals
  refine bool_eq ?_
  unfold plainP
  simp_all
mutual
theorem Ex.pre_len:∀e:Ex,e.pre.length≤e.sz
 | ⟨k,n,s,l⟩=>by
  have:=Ex.pres_len2 l
  rw [Ex.pre,Ex.sz_eq,List.length_cons]
  dsimp only;omega
theorem Ex.pres_len2:∀l:List Ex,(Ex.pres l).length≤Ex.szs l
 | []=>by simp [Ex.pres]
 | e::r=>by
  have h1:=Ex.pre_len e
  have h2:=Ex.pres_len2 r
  rw [Ex.pres,Ex.szs,List.length_append];omega
end
mutual
theorem Ex.pre_sz:∀(e x:Ex),x∈e.pre→x.sz≤e.sz
 | ⟨k,n,s,l⟩,x,h=>by
  rw [Ex.pre,List.mem_cons] at h
  rcases h with rfl|h
  ·exact Nat.le_refl _
  ·have:=Ex.pres_sz l x h
   have h2:=Ex.sz_eq ⟨k,n,s,l⟩
   dsimp only at h2;omega
theorem Ex.pres_sz:∀(l:List Ex) (x:Ex),x∈Ex.pres l→x.sz≤Ex.szs l
 | [],x,h=>by simp [Ex.pres] at h
 | e::r,x,h=>by
  rw [Ex.pres,List.mem_append] at h
  rw [Ex.szs]
  rcases h with h|h
  ·have:=Ex.pre_sz e x h;omega
  ·have:=Ex.pres_sz r x h;omega
end
theorem plain_law (e:Ex):plainP e=(Ex.plainB e&&e.kids.all fun k=>Ex.kidB e.kind k.kind):=by
 obtain⟨k,n,s,l⟩:=e
 by_cases hin:1≤k∧k≤14
 ·have:k=1∨k=2∨k=3∨k=4∨k=5∨k=6∨k=7∨k=8∨k=9∨k=10∨k=11∨k=12∨k=13∨k=14:=by omega
  clear hin
  rcases this with rfl|rfl|rfl|rfl|rfl|rfl|rfl|rfl|rfl|rfl|rfl|rfl|rfl|rfl
  all_goals
   simp [plainP,Ex.plainB,kidsP,Ex.kidsN,Ex.kidB,kidP]
   rw [Bool.eq_iff_iff]
   simp
   try (constructor<;>intro h<;>simp_all<;>omega)
  ·exact fun _=>⟨fun ⟨a,b⟩=>⟨⟨⟨a,b⟩,by omega⟩,by omega⟩,fun h=>h.1.1⟩
  ·exact⟨fun ⟨⟨⟨a,b⟩,c⟩,d⟩=>⟨⟨⟨⟨⟨a,b⟩,c⟩,by omega⟩,by omega⟩,fun x hx=>by have:=d x hx;omega⟩,fun h=>⟨h.1.1.1,fun x hx=>by have:=h.2 x hx;omega⟩⟩
  ·exact⟨fun ⟨⟨⟨a,b⟩,c⟩,d⟩=>⟨⟨⟨⟨⟨a,b⟩,c⟩,by omega⟩,by omega⟩,fun x hx=>by have:=d x hx;omega⟩,fun h=>⟨h.1.1.1,fun x hx=>by have:=h.2 x hx;omega⟩⟩
 ·have hk:kidsP k = -1:=by unfold kidsP;rw [if_neg (by omega),if_neg (by omega),if_neg (by omega)]
  have h1:plainP ⟨k,n,s,l⟩=false:=by
   unfold plainP
   rw [if_pos]
   have h2:((l.length:Int) != kidsP k)=true:=by rw [hk,bne_iff_ne];omega
   dsimp only
   rw [h2];rfl
  have h2:Ex.plainB ⟨k,n,s,l⟩=false:=by
   unfold Ex.plainB
   dsimp only
   have:(decide (k<1)||decide (k>14))=true:=by rw [Bool.or_eq_true,decide_eq_true_iff,decide_eq_true_iff];omega
   rw [this];rfl
  rw [h1,h2];rfl
theorem formsB_all2 (k:Int):∀l:List Ex,Ex.formsB k l=(l.all Ex.formB&&l.all fun x=>Ex.kidB k x.kind)
 | []=>rfl
 | e::r=>by
  rw [Ex.formsB,formsB_all2 k r,List.all_cons,List.all_cons]
  cases e.formB<;>cases Ex.kidB k e.kind<;>simp
mutual
theorem pre_law:∀e:Ex,e.pre.all plainP=e.formB
 | ⟨k,n,s,l⟩=>by
  rw [Ex.pre,List.all_cons,pres_law l,plain_law,Ex.form_eq,formsB_all2]
  dsimp only
  cases Ex.plainB ⟨k,n,s,l⟩<;>cases l.all Ex.formB<;>simp
theorem pres_law:∀l:List Ex,(Ex.pres l).all plainP=l.all Ex.formB
 | []=>rfl
 | e::r=>by rw [Ex.pres,List.all_append,pre_law e,pres_law r,List.all_cons]
end
theorem rngQ_r {e e':Nat→D} {I:Prop} {st1 st':List Bx} {Q:Exit→(Nat→D)→List Bx→Prop}:rngQ e I st1 Q .ret e' st'=Q .ret e st':=rfl
theorem peRight (e:Ex) (hz:e.sz≤1048576):DPure Tryd.prog 8 [.r (Ex.at e)] (.a (.v (.bool e.rightB))):=by
 have hpl:=Ex.pre_len e
 have hlaw:e.rightB=(decide ((e.deep:Int)≤20)&&e.pre.all plainP):=by
  unfold Ex.rightB
  rw [pre_law,Bool.and_comm]
  congr 1
  rw [Bool.eq_iff_iff,decide_eq_true_iff,decide_eq_true_iff];omega
 refine DPure.go Tryd.func8 rfl Tryd.ntmps8 rfl rfl rfl (fun C hro=>?_)
 have fx:=trivial
 repeat' (first|refine WP.seq ?_|(refine WP.reg [0,1,2,3,6,8,9,12] (by kernel_rfl) (by kernel_rfl) ?_;refine RS.run2 (by simp only [go_sem,simprocAttr,thenQ_n];first|done|rfl) ?_;simp only [RSr_mk])|(first|refine RS.finT (by simp only [go_sem,simprocAttr];first|done|rfl) ?_|refine RS.fin (by simp only [go_sem,simprocAttr];first|done|rfl) ?_;(try simp only [thenQ_n,blockQ_n]))|(refine RS.call (by simp only [go_sem,simprocAttr,thenQ_n];first|done|rfl) (by simp only [go_sem,List.all_cons,List.all_nil,Bool.and_true,thenQ_n]) (by first|exact peDeep _ e 20 (Nat.le_refl _) hz (by decide) (by decide)|exact peAll e) ?_;refine RS.run2 (by simp only [go_sem,simprocAttr,thenQ_n];first|done|rfl) ?_;simp only [RSr_mk])|((refine WP.cond rfl (by simp only [go_sem,simprocAttr,thenQ_n];first|done|rfl) (fun hc=>?_) (fun hc=>?_))<;>try exact Bool.noConfusion hc)|(refine WP.skip ?_;(try simp only [thenQ_n,blockQ_n]))|refine WP.block ?_|(refine WP.ret ?_;(try simp only [thenQ_r,blockQ_r]);refine retC rfl (by simp only [go_sem,simprocAttr,thenQ_n];first|done|rfl) (by simp only [go_sem,simprocAttr,thenQ_n];first|done|rfl) (by simp only [go_sem];first|done|rfl) (by simp only [go_sem,simprocAttr,thenQ_n];first|done|rfl) (by simp only [go_sem,simprocAttr,thenQ_n];first|done|rfl) (by simp only [go_sem,thenQ_n]) ?_))
 ·refine bool_eq ?_
  rw [hlaw]
  simp only [Bool.not_eq_true'] at hc
  rw [hc];rfl
 have hdeep:decide ((e.deep:Int)≤20)=true:=by simpa using hc
 refine WP.range [(2,.a (.ptr 1 0)),(8,.a (.fn 32 [.ref (Ex.at e) 0]))] (fun _=>[.cell (Ex.at e),.cell [.v (.bool false)]]) (preL e.pre) .junk (fun k=>(e.pre.take k).all plainP=true) rfl hro rfl rfl ?_ rfl (fun _=>rfl) ?_ rfl rfl rfl (peAll1 e (by omega)) rfl rfl ?_ ?_ ?_
 ·simp only [Agree,go_sem,simprocAttr]
 ·intro _
  simp only [go_sem,simprocAttr,nr_of_cl (Ex.cl e)]
 ·intro j xs hxs
  unfold preL at hxs
  rw [List.getElem?_map,Option.map_eq_some_iff] at hxs
  obtain⟨_,_,rfl⟩:=hxs
  rfl
 ·intro C1 j xs hxs hI
  unfold preL at hxs
  rw [List.getElem?_map,Option.map_eq_some_iff] at hxs
  obtain⟨x,hx,rfl⟩:=hxs
  have hxm:x∈e.pre:=List.mem_of_getElem? hx
  have hxz:x.sz≤1048576:=by have:=Ex.pre_sz e x hxm;omega
  simp only [bindE_1]
  repeat' (first|refine WP.seq ?_|(refine WP.reg [0,1,2,3,6,8,9,12] (by kernel_rfl) (by kernel_rfl) ?_;refine RS.run2 (by simp only [go_sem,simprocAttr,thenQ_n];first|done|rfl) ?_;simp only [RSr_mk])|(first|refine RS.finT (by simp only [go_sem,simprocAttr];first|done|rfl) ?_|refine RS.fin (by simp only [go_sem,simprocAttr];first|done|rfl) ?_;(try simp only [thenQ_n,blockQ_n])))
  intro C2
  repeat' (first|refine WP.seq ?_|(refine WP.reg [0,1,2,3,6,8,9,12] (by kernel_rfl) (by kernel_rfl) ?_;refine RS.run2 (by simp only [go_sem,simprocAttr,thenQ_n];first|done|rfl) ?_;simp only [RSr_mk])|(first|refine RS.finT (by simp only [go_sem,simprocAttr];first|done|rfl) ?_|refine RS.fin (by simp only [go_sem,simprocAttr];first|done|rfl) ?_;(try simp only [thenQ_n,blockQ_n]))|(refine RS.call (by simp only [go_sem,simprocAttr,thenQ_n];first|done|rfl) (by simp only [go_sem,List.all_cons,List.all_nil,Bool.and_true,thenQ_n]) (by exact pePlain x hxz) ?_;refine RS.run2 (by simp only [go_sem,simprocAttr,thenQ_n];first|done|rfl) ?_;simp only [RSr_mk])|((refine WP.cond rfl (by simp only [go_sem,simprocAttr,thenQ_n];first|done|rfl) (fun hc=>?_) (fun hc=>?_))<;>try exact Bool.noConfusion hc)|(refine WP.skip ?_;(try simp only [thenQ_n,blockQ_n]))|refine WP.block ?_)
  ·refine WP.ret ?_
   simp only [thenQ_r,blockQ_r,rngQ_r]
   refine retC rfl (by simp only [go_sem,simprocAttr];first|done|rfl) (by simp only [go_sem,simprocAttr];first|done|rfl) (by simp only [go_sem];first|done|rfl) (by simp only [go_sem,simprocAttr];first|done|rfl) (by simp only [go_sem,simprocAttr];first|done|rfl) (by simp only [go_sem]) ?_
   refine bool_eq ?_
   rw [hlaw,show e.pre.all plainP=false by rw [List.all_eq_false];exact⟨x,hxm,by simpa using hc⟩];simp
  ·refine⟨?_,[.cell (Ex.at x)],rfl⟩
   rw [take_snoc1 hx,List.all_append,hI]
   simpa using hc
 ·intro hI
  simp only [blockQ_n,thenQ_n]
  repeat' (first|refine WP.seq ?_|(refine WP.reg [0,1,2,3,6,8,9,12] (by kernel_rfl) (by kernel_rfl) ?_;refine RS.run2 (by simp only [go_sem,simprocAttr,thenQ_n];first|done|rfl) ?_;simp only [RSr_mk])|(first|refine RS.finT (by simp only [go_sem,simprocAttr];first|done|rfl) ?_|refine RS.fin (by simp only [go_sem,simprocAttr];first|done|rfl) ?_;(try simp only [thenQ_n,blockQ_n]))|(refine WP.ret ?_;(try simp only [thenQ_r,blockQ_r]);refine retC rfl (by simp only [go_sem,simprocAttr,thenQ_n];first|done|rfl) (by simp only [go_sem,simprocAttr,thenQ_n];first|done|rfl) (by simp only [go_sem];first|done|rfl) (by simp only [go_sem,simprocAttr,thenQ_n];first|done|rfl) (by simp only [go_sem,simprocAttr,thenQ_n];first|done|rfl) (by simp only [go_sem,thenQ_n]) ?_))
  refine bool_eq ?_
  have hel:(preL e.pre).length=e.pre.length:=by simp [preL]
  rw [hel,List.take_length] at hI
  rw [hlaw,hI,hdeep];rfl
def lvK (k:Int):Int:=if k=6∨k=7 then 2 else if k=8 then 3 else if k=9∨k=10 then 1 else if k=11 then 0 else 4
def sgK (k:Int):List UInt8:=if k=6 then [43] else if k=7 then [45] else if k=8 then [42] else if k=9 then [60] else if k=10 then [61,61] else [38,38]
def parB (least:Int) (x:Int×List UInt8):List UInt8:=if x.1<least then [40]++x.2++[41] else x.2
def lfK (k:Int):Int:=if lvK k=1 then 2 else lvK k
def txK (dg:Int→List UInt8) (k n:Int) (name:List UInt8):List (Int×List UInt8)→List UInt8
 | []=>if k=1 then dg n else if k=2 then name else if k=3 then [116,104,105,115] else if k=4 then [110,117,108,108] else [105,110,112,117,116]
 | [a]=>if k=12 then [33]++parB 4 a else [110,105,108,40]++parB 4 a++[41]
 | a::b::_=>if k=14 then [115,97,109,101,40]++parB 4 a++[44,32]++parB 4 b++[41] else parB (lfK k) a++[32]++sgK k++[32]++parB (lvK k+1) b
mutual
def Ex.txt (dg:Int→List UInt8):Ex→List UInt8
 | ⟨k,n,name,kids⟩=>txK dg k n name (Ex.txts dg kids)
def Ex.txts (dg:Int→List UInt8):List Ex→List (Int×List UInt8)
 | []=>[]
 | e::r=>(lvK e.kind,e.txt dg)::Ex.txts dg r
end
theorem Ex.txt_eq (dg:Int→List UInt8) (e:Ex):e.txt dg=txK dg e.kind e.num e.name (Ex.txts dg e.kids):=by cases e;rfl
theorem Ex.txts_map (dg:Int→List UInt8):∀l:List Ex,Ex.txts dg l=l.map fun e=>(lvK e.kind,e.txt dg)
 | []=>rfl
 | e::r=>by rw [Ex.txts,Ex.txts_map dg r];rfl
def Ex.wrt (dg:Int→List UInt8) (e:Ex) (least:Int):List UInt8:=parB least (lvK e.kind,e.txt dg)
end Go.Proofs.YtbhmfkjbaklfeaaDoor
