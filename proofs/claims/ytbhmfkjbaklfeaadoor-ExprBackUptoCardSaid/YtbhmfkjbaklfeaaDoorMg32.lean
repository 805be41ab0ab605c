/- The document's text of an expression, on plain data. Conditions: at most 2^20 of anything. -/
import Derived.Test.YtbhmfkjbaklfeaaDoorMg21
import Derived.Test.YtbhmfkjbaklfeaaDoorMg22
import Derived.Test.YtbhmfkjbaklfeaaDoorMg25
import Derived.Test.YtbhmfkjbaklfeaaDoorMg26
import Derived.Test.YtbhmfkjbaklfeaaDoorMg14
import Derived.Test.YtbhmfkjbaklfeaaDoorMg30
import Derived.Lib.Join
import Derived.Test.YtbhmfkjbaklfeaaDoorMg31
set_option linter.unusedVariables false
set_option maxRecDepth 100000
set_option maxHeartbeats 8000000
set_option linter.unusedSimpArgs false
namespace Go.Proofs.YtbhmfkjbaklfeaaDoor
open Go.RowKit
theorem kx0 (q2:Option (Nat×Nat)) (a:Ex) (l:List (List A)):ixD (some 4) q2 (.a (.sl (Ex.at a::l))) (.a (.v (.int .i64 0)))=some (.a (.ref (Ex.at a) 0)):=by refine ixD_at (j:=0) (row:=Ex.at a) rfl rfl (by simp only [go_sem])
theorem kx1 (q2:Option (Nat×Nat)) (a b:Ex) (l:List (List A)):ixD (some 4) q2 (.a (.sl (Ex.at a::Ex.at b::l))) (.a (.v (.int .i64 1)))=some (.a (.ref (Ex.at b) 0)):=by refine ixD_at (j:=1) (row:=Ex.at b) rfl rfl (by simp only [go_sem])
theorem addE (x y:List UInt8) (h:x.length+y.length≤9223372036854775807):∃z,z=x++y∧z.length=x.length+y.length∧∀b,evBin b .add (.string (bs x)) (.string (bs y))=some (.string (bs z)):=⟨_,rfl,List.length_append,adds h⟩
theorem addL (x y:List UInt8) (h:x.length+y.length≤9223372036854775807):∃z,z=x++y∧z.length=x.length+y.length∧∀b,evBin b .add (.string ⟨x.toArray⟩) (.string (bs y))=some (.string (bs z)):=addE x y h
theorem addR (x y:List UInt8) (h:x.length+y.length≤9223372036854775807):∃z,z=x++y∧z.length=x.length+y.length∧∀b,evBin b .add (.string (bs x)) (.string ⟨y.toArray⟩)=some (.string (bs z)):=addE x y h
theorem chunk_binds:chunk bindR 0 3 0 6=sgnL.map Bd.at:=rfl
theorem bindR_0:ldRow (some 3) bindR 0=some (.r (Bd.at ⟨[38,38],1,11⟩)):=rfl
theorem bindR_1:ldRow (some 3) bindR 3=some (.r (Bd.at ⟨[60],2,9⟩)):=rfl
theorem bindR_2:ldRow (some 3) bindR 6=some (.r (Bd.at ⟨[61,61],2,10⟩)):=rfl
theorem bindR_3:ldRow (some 3) bindR 9=some (.r (Bd.at ⟨[43],3,6⟩)):=rfl
theorem bindR_4:ldRow (some 3) bindR 12=some (.r (Bd.at ⟨[45],3,7⟩)):=rfl
theorem bindR_5:ldRow (some 3) bindR 15=some (.r (Bd.at ⟨[42],4,8⟩)):=rfl
theorem pIxBind (q:Bd→Bool) (l:List Bd) (fn:FuncId) (caps:List A) (hcl:caps.all clA=true) (hn:l.length≤1048576) (hf:∀k∈l,DPure Tryd.prog fn (.r (Bd.at k)::caps.map D.a) (.a (.v (.bool (q k))))):DPure Tryd.prog 53 [.a (.sl (l.map Bd.at)),.a (.fn fn caps)] (.a (.v (.int .i64 (ixOf q l 0)))):=by
 have hcd:=cap_okD hcl
 have hld:=cap_ldD hcl
 refine DPure.go Tryd.func53 rfl Tryd.ntmps53 rfl rfl rfl (fun C hro=>?_)
 have fx:=trivial
 repeat' (first|refine stp [0,1,4,5,7,8,9,16] ?_|(refine RS.sA (hc:=chunk_binds) (k:=?_);refine rnx ?_)|refine retTT ?_|(refine RQ.ls ?_;refine rnx ?_)|refine WP.cn (fun hc=>?_) (fun hc=>?_)|fail)
 refine WP.loop (α:={ k:Nat // k≤l.length∧(l.take k).any q=false }) (fun y=>[(0,.a (.sl (l.map Bd.at))),(1,.a (.fn fn caps)),(7,.a (.v (.int .i64 (l.length:Nat)))),(8,.a (.v (.int .i64 (y.1:Nat))))]) (fun _=>[]) (fun y=>l.length-y.1) ⟨0,by omega,rfl⟩ (by simp only [Agree,go_sem,simprocAttr];first|done|rfl) rfl ?_
 rintro⟨k,hk,hinv⟩
 dsimp only
 by_cases hlt:k<l.length
 ·have hlt2:decide ((k:Int)<((l.length:Nat):Int))=true:=decide_eq_true (by omega)
  obtain⟨z,hz⟩:∃z,l[k]? = some z:=⟨_,List.getElem?_eq_getElem hlt⟩
  have hzm:z∈l:=List.mem_of_getElem? hz
  have hzt:=take_snocA hz
  have hix:∀q2,ixD (some 3) q2 (.a (.sl (l.map Bd.at))) (.a (.v (.int .i64 (k:Int))))=some (.a (.ref (Bd.at z) 0)):=fun q2=>ixD_at rfl (by rw [List.getElem?_map,hz];rfl) (by simp only [go_sem])
  have hw:k<9223372036854775807:=by omega
  have hwu:=wrap64n (k:=k) (by omega)
  replace fx:=And.intro hlt2 (And.intro hix (And.intro hwu (And.intro hcd (And.intro hld trivial))))
  repeat' (first|refine stp [0,1,4,5,7,8,9,16] ?_|(refine stc (r1:=by exact hf z hzm) (r2:=?_);refine rnx ?_)|(refine RS.sA (hc:=chunk_binds) (k:=?_);refine rnx ?_)|refine retTT ?_|(refine RQ.ls ?_;refine rnx ?_)|refine WP.cn (fun hc=>?_) (fun hc=>?_)|fail)
  ·rw [ixOf_at q l k 0 z hz hinv hc,Nat.zero_add]
  ·refine⟨⟨k+1,by omega,by rw [hzt,List.any_append,hinv];simpa using hc⟩,by dsimp only;omega,?_,rfl⟩
   simp only [Agree,go_sem,simprocAttr]
 obtain rfl:k=l.length:=by omega
 rw [List.take_length] at hinv
 have hlt2:decide ((l.length:Int)<(l.length:Int))=false:=decide_eq_false (by omega)
 replace fx:=And.intro hlt2 trivial
 repeat' (first|refine stp [0,1,4,5,7,8,9,16] ?_|(refine RS.sA (hc:=chunk_binds) (k:=?_);refine rnx ?_)|refine retTT ?_|(refine RQ.ls ?_;refine rnx ?_)|refine WP.cn (fun hc=>?_) (fun hc=>?_)|fail)
 rw [ixOf_none q l 0 hinv]
theorem peText1 (e:Ex) (b:Bd):DPure Tryd.prog 54 [.r (Bd.at b),.a (.ref (Ex.at e) 0)] (.a (.v (.bool (b.kind==e.kind)))):=by
 refine DPure.go Tryd.func54 rfl Tryd.ntmps54 rfl rfl rfl (fun C hro=>?_)
 have fx:=trivial
 repeat' (first|refine stp [0,1,2,3] ?_|(refine RS.sA (hc:=chunk_binds) (k:=?_);refine rnx ?_)|refine retTT ?_|(refine RQ.ls ?_;refine rnx ?_)|fail)
 rfl
theorem retTT {P:Program} {n:Nat} {e:Nat→D} {st:List Bx} {d d1 d2:D} {t u:Nat} (h:.t [d1,d2]=d) (ht:decide (t<n)=true:=by rfl) (hu:decide (u<n)=true:=by rfl) (he:seeD1 st (e t)=d1:=by (simp only [go_sem,simprocAttr,fx])<;>rfl) (he2:seeD1 st (e u)=d2:=by (simp only [go_sem,simprocAttr,fx])<;>rfl) (hc1:clD1 d1=true:=by simp only [go_sem,fx]) (hc2:clD1 d2=true:=by simp only [go_sem,fx]):retN P n [.tmp t,.tmp u] d .ret e st:=by
 subst h
 show resL P n e st [.tmp t,.tmp u] _
 refine⟨[d1,d2],rfl,?_,by simp [hc1,hc2]⟩
 simp only [List.map_cons,List.map_nil,res1]
 rw [if_pos (of_decide_eq_true ht),if_pos (of_decide_eq_true hu),he,he2]
theorem join3 (x y z:List UInt8):Lib.join [x,y,z] [32]=x++[32]++y++[32]++z:=by simp [Lib.join,List.intercalate,List.intersperse]
theorem pJoin (l:List (List UInt8)) (sep:List UInt8) (h0:l≠[]) (hn:l.length≤1048576) (hl:(Lib.join l sep).length≤140737488355328):DPure Tryd.prog 55 [.a (.sl (l.map strAt)),.a (.v (.string (bs sep)))] (.a (.v (.string (bs (Lib.join l sep))))):=by
 refine⟨callFunc_of Tryd.func55 rfl rfl,fun w x vs hx hg hvl hr=>?_⟩
 match vs,hvl with
 | [u,v],_ =>
  have h1:RepD (out w x) (.a (.sl (l.map strAt))) u:=hr 0 _ rfl
  have h2:RepD (out w x) (.a (.v (.string (bs sep)))) v:=hr 1 _ rfl
  obtain⟨rfl,_⟩:=h2.v_inv
  have h3:=h1.c_inv rfl
  generalize hrows:l.map strAt=rows at h3
  cases h3 with
  | sl0 a c=>exact absurd (List.map_eq_nil_iff.1 hrows) h0
  | sl _ n b o c val hC hM hc hlen hcell hrep =>
   have hat:∀(j:Nat) (s:List UInt8),l[j]? = some s→w.cell? ⟨b,o+j,none⟩=some (.string (bs s)):=fun j s hj=>by
    have hr1:rows[j]? = some (strAt s):=by rw [←hrows,List.getElem?_map,hj];rfl
    have hn1:1=n:=hlen j _ hr1
    subst hn1
    have h4:=hcell j _ 0 _ hr1 rfl
    have h5:=hrep j _ 0 _ hr1 rfl
    rw [Nat.mul_one,Nat.add_zero] at h4
    generalize val j 0=u at h4 h5
    cases h5
    exact h4
   have hlr:rows.length=(l.map bs).length:=by rw [←hrows];simp
   rw [hlr]
   have hll:(l.map bs).length≤140737488355328:=by rw [List.length_map];omega
   have hbd:(l.map bs).map (·.data.toList)=l:=by
    rw [List.map_map];conv=>rhs;rw [←List.map_id l]
    exact List.map_congr_left fun s _=>bs_data s
   have:=Tryd.strings_Join b o c (l.map bs) (bs sep) w (fun j y hy=>by
    rw [List.getElem?_map,Option.map_eq_some_iff] at hy
    obtain⟨s,hs,rfl⟩:=hy
    exact hat j s hs) hC.lt hll (by rw [←hlr];exact hc) (by rw [hbd,bs_data];exact hl)
   refine this.mono ?_
   rintro en w' ⟨rfl,hq⟩
   refine⟨_,rfl,Grw.of_below hq,?_⟩
   rw [hbd,bs_data]
   exact .a _ _ (.c _ _ (.v _ rfl))
theorem peAtOf (e:Ex) (hz:e.sz≤1048576) (hf:e.formB=true) (hT:DPure Tryd.prog 37 [.r (Ex.at e)] (.t [.a (.v (.string (bs (e.txt dgN)))),.a (.v (.int .i64 (lvK e.kind+1)))])) (least:Int):DPure Tryd.prog 19 [.r (Ex.at e),.a (.v (.int .i64 least))] (.a (.v (.string (bs (e.wrt dgN (least-1)))))):=by
 have hlen:=Ex.txt_len _ e (Nat.le_refl _) hf
 obtain⟨p1,e1,l1,hp1⟩:=addL [40] (e.txt dgN) (by simp only [List.length_cons,List.length_nil] at *;omega)
 obtain⟨p2,e2,l2,hp2⟩:=addR p1 [41] (by simp only [List.length_cons,List.length_nil] at *;omega)
 by_cases hls:lvK e.kind+1<least
 ·have hl:=decide_eq_true hls
  refine DPure.go Tryd.func19 rfl Tryd.ntmps19 rfl rfl rfl (fun C hro=>?_)
  have fx:=trivial
  replace fx:=And.intro hl (And.intro hp1 (And.intro hp2 trivial))
  repeat' (first|refine stp [0,1,2,4,5,6,14] ?_|(refine stc (r1:=by exact hT) (r2:=?_);refine rnx ?_)|(refine RS.sA (hc:=chunk_binds) (k:=?_);refine rnx ?_)|refine retTT ?_|(refine RQ.ls ?_;refine rnx ?_)|refine WP.cn (fun hc=>?_) (fun hc=>?_)|fail)
  subst e2 e1
  exact congrArg (fun z=>D.a (.v (.string (bs z)))) (parB_t (by omega)).symm
 ·have hl:=decide_eq_false hls
  refine DPure.go Tryd.func19 rfl Tryd.ntmps19 rfl rfl rfl (fun C hro=>?_)
  have fx:=trivial
  replace fx:=And.intro hl trivial
  repeat' (first|refine stp [0,1,2,4,5,6,14] ?_|(refine stc (r1:=by exact hT) (r2:=?_);refine rnx ?_)|(refine RS.sA (hc:=chunk_binds) (k:=?_);refine rnx ?_)|refine retTT ?_|(refine RQ.ls ?_;refine rnx ?_)|refine WP.cn (fun hc=>?_) (fun hc=>?_)|fail)
  exact congrArg (fun z=>D.a (.v (.string (bs z)))) (parB_f (by omega)).symm
theorem wrt_low (e:Ex) (h:lvK e.kind=4):e.wrt dgN (-1)=e.wrt dgN 4:=by
 unfold Ex.wrt;rw [h,parB_f (by decide),parB_f (by decide)]
theorem lvK_nn (k:Int):0≤lvK k:=by
 unfold lvK
 repeat' split
 all_goals decide
theorem peText:∀(m:Nat) (e:Ex),e.sz≤m→e.sz≤1048576→e.formB=true→DPure Tryd.prog 37 [.r (Ex.at e)] (.t [.a (.v (.string (bs (e.txt dgN)))),.a (.v (.int .i64 (lvK e.kind+1)))])
 | 0,e,h,_,_=>by have:=e.sz_pos;omega
 | m+1,e,h,hz,hf=>by
  have IH:∀(k:Ex) (l:Int),k.sz<e.sz→k.formB=true→DPure Tryd.prog 19 [.r (Ex.at k),.a (.v (.int .i64 l))] (.a (.v (.string (bs (k.wrt dgN (l-1)))))):=fun k l hk hkf=>peAtOf k (by omega) hkf (peText m k (by omega) (by omega) hkf) l
  have hzz:=e.sz_eq
  have hx0:=kx0
  have hx1:=kx1
  cases e.shp hf with
  | num n hn =>
   have hdg:=pwDigits n hn
   refine DPure.go Tryd.func37 rfl Tryd.ntmps37 rfl rfl rfl (fun C hro=>?_)
   have fx:=trivial
   replace fx:=And.intro hx0 trivial
   repeat' (first|(refine RWL.fin ?_;try simp only [thenQ_n,blockQ_n])|refine stp [0,1,2,3,4,5,6,8,9,14,18,20,22,24,32,41,72] ?_|(refine RS.ls ?_;refine rnx ?_)|(refine RS.sE ?_;refine rnx ?_)|(refine RS.pk ?_;refine rnx ?_)|(refine RS.gF ?_;refine rnx ?_)|(refine RS.sN ?_;refine rnx ?_)|(refine RS.sC ?_;refine rnx ?_)|(refine RS.xC ?_;refine rnx ?_)|(refine RS.bC ?_;refine rnx ?_)|refine RWL.fr ?_|refine RWL.wt ?_|refine RWL.lS ?_|refine RWL.bC ?_|(refine stc (r1:=by exact hdg) (r2:=?_);refine rnx ?_)|(refine' WP.dl (id:=23) [0,1,3,7,0,31,0,64,0,256,768,1792,0,4096,12288,32575,65535,131071,0,262144,262143,2097151] [0,1,2,3,4,5,6,8,9,14,18,20,22,24,32,41,72] [] [] ?_)|refine RWL.re ?_ ?_|refine RdO.oz|refine RdO.oa ?_|refine RdO.oe ?_|refine RdO.on|(refine RS.sA (hc:=chunk_binds) (k:=?_);refine rnx ?_)|refine retTT ?_|(refine RQ.ls ?_;refine rnx ?_)|refine WP.cn (fun hc=>?_) (fun hc=>?_)|(refine RQ.sC ?_;refine rnx ?_)|(refine RQ.sA (hc:=chunk_binds) (k:=?_);refine rnx ?_)|((first|refine WP.dw (id:=17) 16 [0,1,2,3,4,5,6,8,9,14,18,20,22,24,32,41,72] ?_);simp only [RQr_mk,List.drop_succ_cons,List.drop_zero,List.drop_nil])|fail)
   rfl
  | var s =>
   refine DPure.go Tryd.func37 rfl Tryd.ntmps37 rfl rfl rfl (fun C hro=>?_)
   have fx:=trivial
   replace fx:=And.intro hx0 trivial
   repeat' (first|(refine RWL.fin ?_;try simp only [thenQ_n,blockQ_n])|refine stp [0,1,2,3,4,5,6,8,9,14,18,20,22,24,32,41,72] ?_|(refine RS.ls ?_;refine rnx ?_)|(refine RS.sE ?_;refine rnx ?_)|(refine RS.pk ?_;refine rnx ?_)|(refine RS.gF ?_;refine rnx ?_)|(refine RS.sN ?_;refine rnx ?_)|(refine RS.sC ?_;refine rnx ?_)|(refine RS.xC ?_;refine rnx ?_)|(refine RS.bC ?_;refine rnx ?_)|refine RWL.fr ?_|refine RWL.wt ?_|refine RWL.lS ?_|refine RWL.bC ?_|(refine' WP.dl (id:=23) [0,1,3,7,0,31,0,64,0,256,768,1792,0,4096,12288,32575,65535,131071,0,262144,262143,2097151] [0,1,2,3,4,5,6,8,9,14,18,20,22,24,32,41,72] [] [] ?_)|refine RWL.re ?_ ?_|refine RdO.oz|refine RdO.oa ?_|refine RdO.oe ?_|refine RdO.on|(refine RS.sA (hc:=chunk_binds) (k:=?_);refine rnx ?_)|refine retTT ?_|(refine RQ.ls ?_;refine rnx ?_)|refine WP.cn (fun hc=>?_) (fun hc=>?_)|(refine RQ.sC ?_;refine rnx ?_)|(refine RQ.sA (hc:=chunk_binds) (k:=?_);refine rnx ?_)|((first|refine WP.dw (id:=17) 16 [0,1,2,3,4,5,6,8,9,14,18,20,22,24,32,41,72] ?_);simp only [RQr_mk,List.drop_succ_cons,List.drop_zero,List.drop_nil])|fail)
   rfl
  | this =>
   refine DPure.go Tryd.func37 rfl Tryd.ntmps37 rfl rfl rfl (fun C hro=>?_)
   have fx:=trivial
   replace fx:=And.intro hx0 trivial
   repeat' (first|(refine RWL.fin ?_;try simp only [thenQ_n,blockQ_n])|refine stp [0,1,2,3,4,5,6,8,9,14,18,20,22,24,32,41,72] ?_|(refine RS.ls ?_;refine rnx ?_)|(refine RS.sE ?_;refine rnx ?_)|(refine RS.pk ?_;refine rnx ?_)|(refine RS.gF ?_;refine rnx ?_)|(refine RS.sN ?_;refine rnx ?_)|(refine RS.sC ?_;refine rnx ?_)|(refine RS.xC ?_;refine rnx ?_)|(refine RS.bC ?_;refine rnx ?_)|refine RWL.fr ?_|refine RWL.wt ?_|refine RWL.lS ?_|refine RWL.bC ?_|(refine' WP.dl (id:=23) [0,1,3,7,0,31,0,64,0,256,768,1792,0,4096,12288,32575,65535,131071,0,262144,262143,2097151] [0,1,2,3,4,5,6,8,9,14,18,20,22,24,32,41,72] [] [] ?_)|refine RWL.re ?_ ?_|refine RdO.oz|refine RdO.oa ?_|refine RdO.oe ?_|refine RdO.on|(refine RS.sA (hc:=chunk_binds) (k:=?_);refine rnx ?_)|refine retTT ?_|(refine RQ.ls ?_;refine rnx ?_)|refine WP.cn (fun hc=>?_) (fun hc=>?_)|(refine RQ.sC ?_;refine rnx ?_)|(refine RQ.sA (hc:=chunk_binds) (k:=?_);refine rnx ?_)|((first|refine WP.dw (id:=17) 16 [0,1,2,3,4,5,6,8,9,14,18,20,22,24,32,41,72] ?_);simp only [RQr_mk,List.drop_succ_cons,List.drop_zero,List.drop_nil])|fail)
   rfl
  | null =>
   refine DPure.go Tryd.func37 rfl Tryd.ntmps37 rfl rfl rfl (fun C hro=>?_)
   have fx:=trivial
   replace fx:=And.intro hx0 trivial
   repeat' (first|(refine RWL.fin ?_;try simp only [thenQ_n,blockQ_n])|refine stp [0,1,2,3,4,5,6,8,9,14,18,20,22,24,32,41,72] ?_|(refine RS.ls ?_;refine rnx ?_)|(refine RS.sE ?_;refine rnx ?_)|(refine RS.pk ?_;refine rnx ?_)|(refine RS.gF ?_;refine rnx ?_)|(refine RS.sN ?_;refine rnx ?_)|(refine RS.sC ?_;refine rnx ?_)|(refine RS.xC ?_;refine rnx ?_)|(refine RS.bC ?_;refine rnx ?_)|refine RWL.fr ?_|refine RWL.wt ?_|refine RWL.lS ?_|refine RWL.bC ?_|(refine' WP.dl (id:=23) [0,1,3,7,0,31,0,64,0,256,768,1792,0,4096,12288,32575,65535,131071,0,262144,262143,2097151] [0,1,2,3,4,5,6,8,9,14,18,20,22,24,32,41,72] [] [] ?_)|refine RWL.re ?_ ?_|refine RdO.oz|refine RdO.oa ?_|refine RdO.oe ?_|refine RdO.on|(refine RS.sA (hc:=chunk_binds) (k:=?_);refine rnx ?_)|refine retTT ?_|(refine RQ.ls ?_;refine rnx ?_)|refine WP.cn (fun hc=>?_) (fun hc=>?_)|(refine RQ.sC ?_;refine rnx ?_)|(refine RQ.sA (hc:=chunk_binds) (k:=?_);refine rnx ?_)|((first|refine WP.dw (id:=17) 16 [0,1,2,3,4,5,6,8,9,14,18,20,22,24,32,41,72] ?_);simp only [RQr_mk,List.drop_succ_cons,List.drop_zero,List.drop_nil])|fail)
   rfl
  | input =>
   refine DPure.go Tryd.func37 rfl Tryd.ntmps37 rfl rfl rfl (fun C hro=>?_)
   have fx:=trivial
   replace fx:=And.intro hx0 trivial
   repeat' (first|(refine RWL.fin ?_;try simp only [thenQ_n,blockQ_n])|refine stp [0,1,2,3,4,5,6,8,9,14,18,20,22,24,32,41,72] ?_|(refine RS.ls ?_;refine rnx ?_)|(refine RS.sE ?_;refine rnx ?_)|(refine RS.pk ?_;refine rnx ?_)|(refine RS.gF ?_;refine rnx ?_)|(refine RS.sN ?_;refine rnx ?_)|(refine RS.sC ?_;refine rnx ?_)|(refine RS.xC ?_;refine rnx ?_)|(refine RS.bC ?_;refine rnx ?_)|refine RWL.fr ?_|refine RWL.wt ?_|refine RWL.lS ?_|refine RWL.bC ?_|(refine' WP.dl (id:=23) [0,1,3,7,0,31,0,64,0,256,768,1792,0,4096,12288,32575,65535,131071,0,262144,262143,2097151] [0,1,2,3,4,5,6,8,9,14,18,20,22,24,32,41,72] [] [] ?_)|refine RWL.re ?_ ?_|refine RdO.oz|refine RdO.oa ?_|refine RdO.oe ?_|refine RdO.on|(refine RS.sA (hc:=chunk_binds) (k:=?_);refine rnx ?_)|refine retTT ?_|(refine RQ.ls ?_;refine rnx ?_)|refine WP.cn (fun hc=>?_) (fun hc=>?_)|(refine RQ.sC ?_;refine rnx ?_)|(refine RQ.sA (hc:=chunk_binds) (k:=?_);refine rnx ?_)|((first|refine WP.dw (id:=17) 16 [0,1,2,3,4,5,6,8,9,14,18,20,22,24,32,41,72] ?_);simp only [RQr_mk,List.drop_succ_cons,List.drop_zero,List.drop_nil])|fail)
   rfl
  | bin k a b hk ha hb =>
   have hsz:(⟨k,0,[],[a,b]⟩:Ex).sz=1+0+(a.sz+(b.sz+0)):=hzz
   clear hf hzz
   rcases hk with rfl|rfl|rfl|rfl|rfl|rfl
   ·have hI:DPure Tryd.prog 53 [.a (.sl (sgnL.map Bd.at)),.a (.fn 54 [.ref (Ex.at ⟨6,0,[],[a,b]⟩) 0])] (.a (.v (.int .i64 3))):=pIxBind (fun b=>b.kind==6) sgnL 54 [.ref (Ex.at ⟨6,0,[],[a,b]⟩) 0] rfl (by decide) fun z _=>peText1 ⟨6,0,[],[a,b]⟩ z
    have hla:=Ex.wrt_len a ha 2
    have hlb:=Ex.wrt_len b hb 3
    have ca:DPure Tryd.prog 19 [.r (Ex.at a),.a (.v (.int .i64 3))] (.a (.v (.string (bs (a.wrt dgN 2))))):=IH a 3 (by omega) ha
    have cb:DPure Tryd.prog 19 [.r (Ex.at b),.a (.v (.int .i64 4))] (.a (.v (.string (bs (b.wrt dgN 3))))):=IH b 4 (by omega) hb
    have hb0:=bindR_3
    have hz0:putRow [.v (.string ⟨#[]⟩),.v (.int .i64 0),.v (.int .i64 0)] 0 (Bd.at ⟨[43],3,6⟩)=Bd.at ⟨[43],3,6⟩:=rfl
    have hJ:=pJoin [a.wrt dgN 2,[43],b.wrt dgN 3] [32] (by simp) (by simp) (by rw [join3];simp only [List.length_append,List.length_cons,List.length_nil];omega)
    rw [join3] at hJ
    refine DPure.go Tryd.func37 rfl Tryd.ntmps37 rfl rfl rfl (fun C hro=>?_)
    have fx:=trivial
    replace fx:=And.intro hx0 (And.intro hx1 (And.intro hb0 (And.intro hz0 trivial)))
    repeat' (first|(refine RWL.fin ?_;try simp only [thenQ_n,blockQ_n])|refine stp [0,1,2,3,4,5,6,8,9,14,18,20,22,24,32,41,72] ?_|(refine RS.ls ?_;refine rnx ?_)|(refine RS.sE ?_;refine rnx ?_)|(refine RS.pk ?_;refine rnx ?_)|(refine RS.gF ?_;refine rnx ?_)|(refine RS.sN ?_;refine rnx ?_)|(refine RS.sC ?_;refine rnx ?_)|(refine RS.xC ?_;refine rnx ?_)|(refine RS.bC ?_;refine rnx ?_)|refine RWL.fr ?_|refine RWL.wt ?_|refine RWL.lS ?_|refine RWL.bC ?_|(refine stc (r1:=by first|exact hI|exact ca|exact cb|exact hJ) (r2:=?_);refine rnx ?_)|(refine' WP.dl (id:=23) [0,1,3,7,0,31,0,64,0,256,768,1792,0,4096,12288,32575,65535,131071,0,262144,262143,2097151] [0,1,2,3,4,5,6,8,9,14,18,20,22,24,32,41,72] [] [] ?_)|refine RWL.re ?_ ?_|refine RdO.oz|refine RdO.oa ?_|refine RdO.oe ?_|refine RdO.on|(refine RS.sA (hc:=chunk_binds) (k:=?_);refine rnx ?_)|refine retTT ?_|(refine RQ.ls ?_;refine rnx ?_)|refine WP.cn (fun hc=>?_) (fun hc=>?_)|(refine RQ.sC ?_;refine rnx ?_)|(refine RQ.sA (hc:=chunk_binds) (k:=?_);refine rnx ?_)|((first|refine WP.dw (id:=17) 16 [0,1,2,3,4,5,6,8,9,14,18,20,22,24,32,41,72] ?_);simp only [RQr_mk,List.drop_succ_cons,List.drop_zero,List.drop_nil])|fail)
    rfl
   ·have hI:DPure Tryd.prog 53 [.a (.sl (sgnL.map Bd.at)),.a (.fn 54 [.ref (Ex.at ⟨7,0,[],[a,b]⟩) 0])] (.a (.v (.int .i64 4))):=pIxBind (fun b=>b.kind==7) sgnL 54 [.ref (Ex.at ⟨7,0,[],[a,b]⟩) 0] rfl (by decide) fun z _=>peText1 ⟨7,0,[],[a,b]⟩ z
    have hla:=Ex.wrt_len a ha 2
    have hlb:=Ex.wrt_len b hb 3
    have ca:DPure Tryd.prog 19 [.r (Ex.at a),.a (.v (.int .i64 3))] (.a (.v (.string (bs (a.wrt dgN 2))))):=IH a 3 (by omega) ha
    have cb:DPure Tryd.prog 19 [.r (Ex.at b),.a (.v (.int .i64 4))] (.a (.v (.string (bs (b.wrt dgN 3))))):=IH b 4 (by omega) hb
    have hb0:=bindR_4
    have hz0:putRow [.v (.string ⟨#[]⟩),.v (.int .i64 0),.v (.int .i64 0)] 0 (Bd.at ⟨[45],3,7⟩)=Bd.at ⟨[45],3,7⟩:=rfl
    have hJ:=pJoin [a.wrt dgN 2,[45],b.wrt dgN 3] [32] (by simp) (by simp) (by rw [join3];simp only [List.length_append,List.length_cons,List.length_nil];omega)
    rw [join3] at hJ
    refine DPure.go Tryd.func37 rfl Tryd.ntmps37 rfl rfl rfl (fun C hro=>?_)
    have fx:=trivial
    replace fx:=And.intro hx0 (And.intro hx1 (And.intro hb0 (And.intro hz0 trivial)))
    repeat' (first|(refine RWL.fin ?_;try simp only [thenQ_n,blockQ_n])|refine stp [0,1,2,3,4,5,6,8,9,14,18,20,22,24,32,41,72] ?_|(refine RS.ls ?_;refine rnx ?_)|(refine RS.sE ?_;refine rnx ?_)|(refine RS.pk ?_;refine rnx ?_)|(refine RS.gF ?_;refine rnx ?_)|(refine RS.sN ?_;refine rnx ?_)|(refine RS.sC ?_;refine rnx ?_)|(refine RS.xC ?_;refine rnx ?_)|(refine RS.bC ?_;refine rnx ?_)|refine RWL.fr ?_|refine RWL.wt ?_|refine RWL.lS ?_|refine RWL.bC ?_|(refine stc (r1:=by first|exact hI|exact ca|exact cb|exact hJ) (r2:=?_);refine rnx ?_)|(refine' WP.dl (id:=23) [0,1,3,7,0,31,0,64,0,256,768,1792,0,4096,12288,32575,65535,131071,0,262144,262143,2097151] [0,1,2,3,4,5,6,8,9,14,18,20,22,24,32,41,72] [] [] ?_)|refine RWL.re ?_ ?_|refine RdO.oz|refine RdO.oa ?_|refine RdO.oe ?_|refine RdO.on|(refine RS.sA (hc:=chunk_binds) (k:=?_);refine rnx ?_)|refine retTT ?_|(refine RQ.ls ?_;refine rnx ?_)|refine WP.cn (fun hc=>?_) (fun hc=>?_)|(refine RQ.sC ?_;refine rnx ?_)|(refine RQ.sA (hc:=chunk_binds) (k:=?_);refine rnx ?_)|((first|refine WP.dw (id:=17) 16 [0,1,2,3,4,5,6,8,9,14,18,20,22,24,32,41,72] ?_);simp only [RQr_mk,List.drop_succ_cons,List.drop_zero,List.drop_nil])|fail)
    rfl
   ·have hI:DPure Tryd.prog 53 [.a (.sl (sgnL.map Bd.at)),.a (.fn 54 [.ref (Ex.at ⟨8,0,[],[a,b]⟩) 0])] (.a (.v (.int .i64 5))):=pIxBind (fun b=>b.kind==8) sgnL 54 [.ref (Ex.at ⟨8,0,[],[a,b]⟩) 0] rfl (by decide) fun z _=>peText1 ⟨8,0,[],[a,b]⟩ z
    have hla:=Ex.wrt_len a ha 3
    have hlb:=Ex.wrt_len b hb 4
    have ca:DPure Tryd.prog 19 [.r (Ex.at a),.a (.v (.int .i64 4))] (.a (.v (.string (bs (a.wrt dgN 3))))):=IH a 4 (by omega) ha
    have cb:DPure Tryd.prog 19 [.r (Ex.at b),.a (.v (.int .i64 5))] (.a (.v (.string (bs (b.wrt dgN 4))))):=IH b 5 (by omega) hb
    have hb0:=bindR_5
    have hz0:putRow [.v (.string ⟨#[]⟩),.v (.int .i64 0),.v (.int .i64 0)] 0 (Bd.at ⟨[42],4,8⟩)=Bd.at ⟨[42],4,8⟩:=rfl
    have hJ:=pJoin [a.wrt dgN 3,[42],b.wrt dgN 4] [32] (by simp) (by simp) (by rw [join3];simp only [List.length_append,List.length_cons,List.length_nil];omega)
    rw [join3] at hJ
    refine DPure.go Tryd.func37 rfl Tryd.ntmps37 rfl rfl rfl (fun C hro=>?_)
    have fx:=trivial
    replace fx:=And.intro hx0 (And.intro hx1 (And.intro hb0 (And.intro hz0 trivial)))
    repeat' (first|(refine RWL.fin ?_;try simp only [thenQ_n,blockQ_n])|refine stp [0,1,2,3,4,5,6,8,9,14,18,20,22,24,32,41,72] ?_|(refine RS.ls ?_;refine rnx ?_)|(refine RS.sE ?_;refine rnx ?_)|(refine RS.pk ?_;refine rnx ?_)|(refine RS.gF ?_;refine rnx ?_)|(refine RS.sN ?_;refine rnx ?_)|(refine RS.sC ?_;refine rnx ?_)|(refine RS.xC ?_;refine rnx ?_)|(refine RS.bC ?_;refine rnx ?_)|refine RWL.fr ?_|refine RWL.wt ?_|refine RWL.lS ?_|refine RWL.bC ?_|(refine stc (r1:=by first|exact hI|exact ca|exact cb|exact hJ) (r2:=?_);refine rnx ?_)|(refine' WP.dl (id:=23) [0,1,3,7,0,31,0,64,0,256,768,1792,0,4096,12288,32575,65535,131071,0,262144,262143,2097151] [0,1,2,3,4,5,6,8,9,14,18,20,22,24,32,41,72] [] [] ?_)|refine RWL.re ?_ ?_|refine RdO.oz|refine RdO.oa ?_|refine RdO.oe ?_|refine RdO.on|(refine RS.sA (hc:=chunk_binds) (k:=?_);refine rnx ?_)|refine retTT ?_|(refine RQ.ls ?_;refine rnx ?_)|refine WP.cn (fun hc=>?_) (fun hc=>?_)|(refine RQ.sC ?_;refine rnx ?_)|(refine RQ.sA (hc:=chunk_binds) (k:=?_);refine rnx ?_)|((first|refine WP.dw (id:=17) 16 [0,1,2,3,4,5,6,8,9,14,18,20,22,24,32,41,72] ?_);simp only [RQr_mk,List.drop_succ_cons,List.drop_zero,List.drop_nil])|fail)
    rfl
   ·have hI:DPure Tryd.prog 53 [.a (.sl (sgnL.map Bd.at)),.a (.fn 54 [.ref (Ex.at ⟨9,0,[],[a,b]⟩) 0])] (.a (.v (.int .i64 1))):=pIxBind (fun b=>b.kind==9) sgnL 54 [.ref (Ex.at ⟨9,0,[],[a,b]⟩) 0] rfl (by decide) fun z _=>peText1 ⟨9,0,[],[a,b]⟩ z
    have hla:=Ex.wrt_len a ha 2
    have hlb:=Ex.wrt_len b hb 2
    have ca:DPure Tryd.prog 19 [.r (Ex.at a),.a (.v (.int .i64 3))] (.a (.v (.string (bs (a.wrt dgN 2))))):=IH a 3 (by omega) ha
    have cb:DPure Tryd.prog 19 [.r (Ex.at b),.a (.v (.int .i64 3))] (.a (.v (.string (bs (b.wrt dgN 2))))):=IH b 3 (by omega) hb
    have hb0:=bindR_1
    have hz0:putRow [.v (.string ⟨#[]⟩),.v (.int .i64 0),.v (.int .i64 0)] 0 (Bd.at ⟨[60],2,9⟩)=Bd.at ⟨[60],2,9⟩:=rfl
    have hJ:=pJoin [a.wrt dgN 2,[60],b.wrt dgN 2] [32] (by simp) (by simp) (by rw [join3];simp only [List.length_append,List.length_cons,List.length_nil];omega)
    rw [join3] at hJ
    refine DPure.go Tryd.func37 rfl Tryd.ntmps37 rfl rfl rfl (fun C hro=>?_)
    have fx:=trivial
    replace fx:=And.intro hx0 (And.intro hx1 (And.intro hb0 (And.intro hz0 trivial)))
    repeat' (first|(refine RWL.fin ?_;try simp only [thenQ_n,blockQ_n])|refine stp [0,1,2,3,4,5,6,8,9,14,18,20,22,24,32,41,72] ?_|(refine RS.ls ?_;refine rnx ?_)|(refine RS.sE ?_;refine rnx ?_)|(refine RS.pk ?_;refine rnx ?_)|(refine RS.gF ?_;refine rnx ?_)|(refine RS.sN ?_;refine rnx ?_)|(refine RS.sC ?_;refine rnx ?_)|(refine RS.xC ?_;refine rnx ?_)|(refine RS.bC ?_;refine rnx ?_)|refine RWL.fr ?_|refine RWL.wt ?_|refine RWL.lS ?_|refine RWL.bC ?_|(refine stc (r1:=by first|exact hI|exact ca|exact cb|exact hJ) (r2:=?_);refine rnx ?_)|(refine' WP.dl (id:=23) [0,1,3,7,0,31,0,64,0,256,768,1792,0,4096,12288,32575,65535,131071,0,262144,262143,2097151] [0,1,2,3,4,5,6,8,9,14,18,20,22,24,32,41,72] [] [] ?_)|refine RWL.re ?_ ?_|refine RdO.oz|refine RdO.oa ?_|refine RdO.oe ?_|refine RdO.on|(refine RS.sA (hc:=chunk_binds) (k:=?_);refine rnx ?_)|refine retTT ?_|(refine RQ.ls ?_;refine rnx ?_)|refine WP.cn (fun hc=>?_) (fun hc=>?_)|(refine RQ.sC ?_;refine rnx ?_)|(refine RQ.sA (hc:=chunk_binds) (k:=?_);refine rnx ?_)|((first|refine WP.dw (id:=17) 16 [0,1,2,3,4,5,6,8,9,14,18,20,22,24,32,41,72] ?_);simp only [RQr_mk,List.drop_succ_cons,List.drop_zero,List.drop_nil])|fail)
    rfl
   ·have hI:DPure Tryd.prog 53 [.a (.sl (sgnL.map Bd.at)),.a (.fn 54 [.ref (Ex.at ⟨10,0,[],[a,b]⟩) 0])] (.a (.v (.int .i64 2))):=pIxBind (fun b=>b.kind==10) sgnL 54 [.ref (Ex.at ⟨10,0,[],[a,b]⟩) 0] rfl (by decide) fun z _=>peText1 ⟨10,0,[],[a,b]⟩ z
    have hla:=Ex.wrt_len a ha 2
    have hlb:=Ex.wrt_len b hb 2
    have ca:DPure Tryd.prog 19 [.r (Ex.at a),.a (.v (.int .i64 3))] (.a (.v (.string (bs (a.wrt dgN 2))))):=IH a 3 (by omega) ha
    have cb:DPure Tryd.prog 19 [.r (Ex.at b),.a (.v (.int .i64 3))] (.a (.v (.string (bs (b.wrt dgN 2))))):=IH b 3 (by omega) hb
    have hb0:=bindR_2
    have hz0:putRow [.v (.string ⟨#[]⟩),.v (.int .i64 0),.v (.int .i64 0)] 0 (Bd.at ⟨[61,61],2,10⟩)=Bd.at ⟨[61,61],2,10⟩:=rfl
    have hJ:=pJoin [a.wrt dgN 2,[61,61],b.wrt dgN 2] [32] (by simp) (by simp) (by rw [join3];simp only [List.length_append,List.length_cons,List.length_nil];omega)
    rw [join3] at hJ
    refine DPure.go Tryd.func37 rfl Tryd.ntmps37 rfl rfl rfl (fun C hro=>?_)
    have fx:=trivial
    replace fx:=And.intro hx0 (And.intro hx1 (And.intro hb0 (And.intro hz0 trivial)))
    repeat' (first|(refine RWL.fin ?_;try simp only [thenQ_n,blockQ_n])|refine stp [0,1,2,3,4,5,6,8,9,14,18,20,22,24,32,41,72] ?_|(refine RS.ls ?_;refine rnx ?_)|(refine RS.sE ?_;refine rnx ?_)|(refine RS.pk ?_;refine rnx ?_)|(refine RS.gF ?_;refine rnx ?_)|(refine RS.sN ?_;refine rnx ?_)|(refine RS.sC ?_;refine rnx ?_)|(refine RS.xC ?_;refine rnx ?_)|(refine RS.bC ?_;refine rnx ?_)|refine RWL.fr ?_|refine RWL.wt ?_|refine RWL.lS ?_|refine RWL.bC ?_|(refine stc (r1:=by first|exact hI|exact ca|exact cb|exact hJ) (r2:=?_);refine rnx ?_)|(refine' WP.dl (id:=23) [0,1,3,7,0,31,0,64,0,256,768,1792,0,4096,12288,32575,65535,131071,0,262144,262143,2097151] [0,1,2,3,4,5,6,8,9,14,18,20,22,24,32,41,72] [] [] ?_)|refine RWL.re ?_ ?_|refine RdO.oz|refine RdO.oa ?_|refine RdO.oe ?_|refine RdO.on|(refine RS.sA (hc:=chunk_binds) (k:=?_);refine rnx ?_)|refine retTT ?_|(refine RQ.ls ?_;refine rnx ?_)|refine WP.cn (fun hc=>?_) (fun hc=>?_)|(refine RQ.sC ?_;refine rnx ?_)|(refine RQ.sA (hc:=chunk_binds) (k:=?_);refine rnx ?_)|((first|refine WP.dw (id:=17) 16 [0,1,2,3,4,5,6,8,9,14,18,20,22,24,32,41,72] ?_);simp only [RQr_mk,List.drop_succ_cons,List.drop_zero,List.drop_nil])|fail)
    rfl
   ·have hI:DPure Tryd.prog 53 [.a (.sl (sgnL.map Bd.at)),.a (.fn 54 [.ref (Ex.at ⟨11,0,[],[a,b]⟩) 0])] (.a (.v (.int .i64 0))):=pIxBind (fun b=>b.kind==11) sgnL 54 [.ref (Ex.at ⟨11,0,[],[a,b]⟩) 0] rfl (by decide) fun z _=>peText1 ⟨11,0,[],[a,b]⟩ z
    have hla:=Ex.wrt_len a ha 0
    have hlb:=Ex.wrt_len b hb 1
    have ca:DPure Tryd.prog 19 [.r (Ex.at a),.a (.v (.int .i64 1))] (.a (.v (.string (bs (a.wrt dgN 0))))):=IH a 1 (by omega) ha
    have cb:DPure Tryd.prog 19 [.r (Ex.at b),.a (.v (.int .i64 2))] (.a (.v (.string (bs (b.wrt dgN 1))))):=IH b 2 (by omega) hb
    have hb0:=bindR_0
    have hz0:putRow [.v (.string ⟨#[]⟩),.v (.int .i64 0),.v (.int .i64 0)] 0 (Bd.at ⟨[38,38],1,11⟩)=Bd.at ⟨[38,38],1,11⟩:=rfl
    have hJ:=pJoin [a.wrt dgN 0,[38,38],b.wrt dgN 1] [32] (by simp) (by simp) (by rw [join3];simp only [List.length_append,List.length_cons,List.length_nil];omega)
    rw [join3] at hJ
    refine DPure.go Tryd.func37 rfl Tryd.ntmps37 rfl rfl rfl (fun C hro=>?_)
    have fx:=trivial
    replace fx:=And.intro hx0 (And.intro hx1 (And.intro hb0 (And.intro hz0 trivial)))
    repeat' (first|(refine RWL.fin ?_;try simp only [thenQ_n,blockQ_n])|refine stp [0,1,2,3,4,5,6,8,9,14,18,20,22,24,32,41,72] ?_|(refine RS.ls ?_;refine rnx ?_)|(refine RS.sE ?_;refine rnx ?_)|(refine RS.pk ?_;refine rnx ?_)|(refine RS.gF ?_;refine rnx ?_)|(refine RS.sN ?_;refine rnx ?_)|(refine RS.sC ?_;refine rnx ?_)|(refine RS.xC ?_;refine rnx ?_)|(refine RS.bC ?_;refine rnx ?_)|refine RWL.fr ?_|refine RWL.wt ?_|refine RWL.lS ?_|refine RWL.bC ?_|(refine stc (r1:=by first|exact hI|exact ca|exact cb|exact hJ) (r2:=?_);refine rnx ?_)|(refine' WP.dl (id:=23) [0,1,3,7,0,31,0,64,0,256,768,1792,0,4096,12288,32575,65535,131071,0,262144,262143,2097151] [0,1,2,3,4,5,6,8,9,14,18,20,22,24,32,41,72] [] [] ?_)|refine RWL.re ?_ ?_|refine RdO.oz|refine RdO.oa ?_|refine RdO.oe ?_|refine RdO.on|(refine RS.sA (hc:=chunk_binds) (k:=?_);refine rnx ?_)|refine retTT ?_|(refine RQ.ls ?_;refine rnx ?_)|refine WP.cn (fun hc=>?_) (fun hc=>?_)|(refine RQ.sC ?_;refine rnx ?_)|(refine RQ.sA (hc:=chunk_binds) (k:=?_);refine rnx ?_)|((first|refine WP.dw (id:=17) 16 [0,1,2,3,4,5,6,8,9,14,18,20,22,24,32,41,72] ?_);simp only [RQr_mk,List.drop_succ_cons,List.drop_zero,List.drop_nil])|fail)
    rfl
  | not a ha =>
   have hsz:(⟨12,0,[],[a]⟩:Ex).sz=1+0+(a.sz+0):=hzz
   have hla:=Ex.wrt_len a ha 4
   have ca:DPure Tryd.prog 19 [.r (Ex.at a),.a (.v (.int .i64 5))] (.a (.v (.string (bs (a.wrt dgN 4))))):=IH a 5 (by omega) ha
   obtain⟨s1,f1,n1,q1⟩:=addL [33] (a.wrt dgN 4) (by simp only [List.length_cons,List.length_nil] at *;omega)
   refine DPure.go Tryd.func37 rfl Tryd.ntmps37 rfl rfl rfl (fun C hro=>?_)
   have fx:=trivial
   replace fx:=And.intro hx0 (And.intro hx1 (And.intro q1 trivial))
   repeat' (first|(refine RWL.fin ?_;try simp only [thenQ_n,blockQ_n])|refine stp [0,1,2,3,4,5,6,8,9,14,18,20,22,24,32,41,72] ?_|(refine RS.ls ?_;refine rnx ?_)|(refine RS.sE ?_;refine rnx ?_)|(refine RS.pk ?_;refine rnx ?_)|(refine RS.gF ?_;refine rnx ?_)|(refine RS.sN ?_;refine rnx ?_)|(refine RS.sC ?_;refine rnx ?_)|(refine RS.xC ?_;refine rnx ?_)|(refine RS.bC ?_;refine rnx ?_)|refine RWL.fr ?_|refine RWL.wt ?_|refine RWL.lS ?_|refine RWL.bC ?_|(refine stc (r1:=by first|exact ca) (r2:=?_);refine rnx ?_)|(refine' WP.dl (id:=23) [0,1,3,7,0,31,0,64,0,256,768,1792,0,4096,12288,32575,65535,131071,0,262144,262143,2097151] [0,1,2,3,4,5,6,8,9,14,18,20,22,24,32,41,72] [] [] ?_)|refine RWL.re ?_ ?_|refine RdO.oz|refine RdO.oa ?_|refine RdO.oe ?_|refine RdO.on|(refine RS.sA (hc:=chunk_binds) (k:=?_);refine rnx ?_)|refine retTT ?_|(refine RQ.ls ?_;refine rnx ?_)|refine WP.cn (fun hc=>?_) (fun hc=>?_)|(refine RQ.sC ?_;refine rnx ?_)|(refine RQ.sA (hc:=chunk_binds) (k:=?_);refine rnx ?_)|((first|refine WP.dw (id:=17) 16 [0,1,2,3,4,5,6,8,9,14,18,20,22,24,32,41,72] ?_);simp only [RQr_mk,List.drop_succ_cons,List.drop_zero,List.drop_nil])|fail)
   subst f1
   rfl
  | nil a ha hk =>
   have hsz:(⟨13,0,[],[a]⟩:Ex).sz=1+0+(a.sz+0):=hzz
   have hla:=Ex.wrt_len a ha (-1)
   have ca:DPure Tryd.prog 19 [.r (Ex.at a),.a (.v (.int .i64 0))] (.a (.v (.string (bs (a.wrt dgN (-1)))))):=IH a 0 (by omega) ha
   obtain⟨s1,f1,n1,q1⟩:=addL [110,105,108,40] (a.wrt dgN (-1)) (by simp only [List.length_cons,List.length_nil] at *;omega)
   obtain⟨s2,f2,n2,q2⟩:=addR (s1) [41] (by simp only [List.length_cons,List.length_nil] at *;omega)
   refine DPure.go Tryd.func37 rfl Tryd.ntmps37 rfl rfl rfl (fun C hro=>?_)
   have fx:=trivial
   replace fx:=And.intro hx0 (And.intro hx1 (And.intro q1 (And.intro q2 trivial)))
   repeat' (first|(refine RWL.fin ?_;try simp only [thenQ_n,blockQ_n])|refine stp [0,1,2,3,4,5,6,8,9,14,18,20,22,24,32,41,72] ?_|(refine RS.ls ?_;refine rnx ?_)|(refine RS.sE ?_;refine rnx ?_)|(refine RS.pk ?_;refine rnx ?_)|(refine RS.gF ?_;refine rnx ?_)|(refine RS.sN ?_;refine rnx ?_)|(refine RS.sC ?_;refine rnx ?_)|(refine RS.xC ?_;refine rnx ?_)|(refine RS.bC ?_;refine rnx ?_)|refine RWL.fr ?_|refine RWL.wt ?_|refine RWL.lS ?_|refine RWL.bC ?_|(refine stc (r1:=by first|exact ca) (r2:=?_);refine rnx ?_)|(refine' WP.dl (id:=23) [0,1,3,7,0,31,0,64,0,256,768,1792,0,4096,12288,32575,65535,131071,0,262144,262143,2097151] [0,1,2,3,4,5,6,8,9,14,18,20,22,24,32,41,72] [] [] ?_)|refine RWL.re ?_ ?_|refine RdO.oz|refine RdO.oa ?_|refine RdO.oe ?_|refine RdO.on|(refine RS.sA (hc:=chunk_binds) (k:=?_);refine rnx ?_)|refine retTT ?_|(refine RQ.ls ?_;refine rnx ?_)|refine WP.cn (fun hc=>?_) (fun hc=>?_)|(refine RQ.sC ?_;refine rnx ?_)|(refine RQ.sA (hc:=chunk_binds) (k:=?_);refine rnx ?_)|((first|refine WP.dw (id:=17) 16 [0,1,2,3,4,5,6,8,9,14,18,20,22,24,32,41,72] ?_);simp only [RQr_mk,List.drop_succ_cons,List.drop_zero,List.drop_nil])|fail)
   subst f2 f1
   rw [wrt_low a hk]
   rfl
  | same a b ha hb hka hkb =>
   have hsz:(⟨14,0,[],[a,b]⟩:Ex).sz=1+0+(a.sz+(b.sz+0)):=hzz
   have hla:=Ex.wrt_len a ha (-1)
   have ca:DPure Tryd.prog 19 [.r (Ex.at a),.a (.v (.int .i64 0))] (.a (.v (.string (bs (a.wrt dgN (-1)))))):=IH a 0 (by omega) ha
   have hlb:=Ex.wrt_len b hb (-1)
   have cb:DPure Tryd.prog 19 [.r (Ex.at b),.a (.v (.int .i64 0))] (.a (.v (.string (bs (b.wrt dgN (-1)))))):=IH b 0 (by omega) hb
   obtain⟨s1,f1,n1,q1⟩:=addL [115,97,109,101,40] (a.wrt dgN (-1)) (by simp only [List.length_cons,List.length_nil] at *;omega)
   obtain⟨s2,f2,n2,q2⟩:=addR (s1) [44,32] (by simp only [List.length_cons,List.length_nil] at *;omega)
   obtain⟨s3,f3,n3,q3⟩:=addE (s2) (b.wrt dgN (-1)) (by simp only [List.length_cons,List.length_nil] at *;omega)
   obtain⟨s4,f4,n4,q4⟩:=addR (s3) [41] (by simp only [List.length_cons,List.length_nil] at *;omega)
   refine DPure.go Tryd.func37 rfl Tryd.ntmps37 rfl rfl rfl (fun C hro=>?_)
   have fx:=trivial
   replace fx:=And.intro hx0 (And.intro hx1 (And.intro q1 (And.intro q2 (And.intro q3 (And.intro q4 trivial)))))
   repeat' (first|(refine RWL.fin ?_;try simp only [thenQ_n,blockQ_n])|refine stp [0,1,2,3,4,5,6,8,9,14,18,20,22,24,32,41,72] ?_|(refine RS.ls ?_;refine rnx ?_)|(refine RS.sE ?_;refine rnx ?_)|(refine RS.pk ?_;refine rnx ?_)|(refine RS.gF ?_;refine rnx ?_)|(refine RS.sN ?_;refine rnx ?_)|(refine RS.sC ?_;refine rnx ?_)|(refine RS.xC ?_;refine rnx ?_)|(refine RS.bC ?_;refine rnx ?_)|refine RWL.fr ?_|refine RWL.wt ?_|refine RWL.lS ?_|refine RWL.bC ?_|(refine stc (r1:=by first|exact ca|exact cb) (r2:=?_);refine rnx ?_)|(refine' WP.dl (id:=23) [0,1,3,7,0,31,0,64,0,256,768,1792,0,4096,12288,32575,65535,131071,0,262144,262143,2097151] [0,1,2,3,4,5,6,8,9,14,18,20,22,24,32,41,72] [] [] ?_)|refine RWL.re ?_ ?_|refine RdO.oz|refine RdO.oa ?_|refine RdO.oe ?_|refine RdO.on|(refine RS.sA (hc:=chunk_binds) (k:=?_);refine rnx ?_)|refine retTT ?_|(refine RQ.ls ?_;refine rnx ?_)|refine WP.cn (fun hc=>?_) (fun hc=>?_)|(refine RQ.sC ?_;refine rnx ?_)|(refine RQ.sA (hc:=chunk_binds) (k:=?_);refine rnx ?_)|((first|refine WP.dw (id:=17) 16 [0,1,2,3,4,5,6,8,9,14,18,20,22,24,32,41,72] ?_);simp only [RQr_mk,List.drop_succ_cons,List.drop_zero,List.drop_nil])|fail)
   subst f4 f3 f2 f1
   rw [wrt_low a hka,wrt_low b hkb]
   rfl
def Ex.txS (e:Ex):List UInt8:=if e.rightB=true then e.txt dgN else []
theorem peTextX (e:Ex) (hz:e.sz≤1048576):DPure Tryd.prog 10 [.r (Ex.at e)] (.a (.v (.string (bs e.txS)))):=by
 have hR:=peRight e hz
 unfold Ex.txS
 cases hr:e.rightB
 ·rw [if_neg (by simp)]
  rw [hr] at hR
  refine DPure.go Tryd.func10 rfl Tryd.ntmps10 rfl rfl rfl (fun C hro=>?_)
  have fx:=trivial
  repeat' (first|refine stp [0,1,2,5] ?_|(refine stc (r1:=by exact hR) (r2:=?_);refine rnx ?_)|(refine RS.sA (hc:=chunk_binds) (k:=?_);refine rnx ?_)|refine retTT ?_|(refine RQ.ls ?_;refine rnx ?_)|refine WP.cn (fun hc=>?_) (fun hc=>?_)|fail)
  rfl
 ·rw [if_pos rfl]
  rw [hr] at hR
  have hf:e.formB=true:=by unfold Ex.rightB at hr;rw [Bool.and_eq_true] at hr;exact hr.1
  have hA:=peAtOf e hz hf (peText _ e (Nat.le_refl _) hz hf) 0
  refine DPure.go Tryd.func10 rfl Tryd.ntmps10 rfl rfl rfl (fun C hro=>?_)
  have fx:=trivial
  repeat' (first|refine stp [0,1,2,5] ?_|(refine stc (r1:=by first|exact hR|exact hA) (r2:=?_);refine rnx ?_)|(refine RS.sA (hc:=chunk_binds) (k:=?_);refine rnx ?_)|refine retTT ?_|(refine RQ.ls ?_;refine rnx ?_)|refine WP.cn (fun hc=>?_) (fun hc=>?_)|fail)
  exact congrArg (fun z=>D.a (.v (.string (bs z)))) (parB_f (by have:=lvK_nn e.kind;omega))
def knName (f:FuncId) (ds:List D):Option D :=
 match ds with
 | [.a (.v (.string ⟨⟨s⟩⟩))]=>if (Nat.beq f 35&&Nat.ble s.length 1000000000)=true then some (.a (.v (.bool (nameB s)))) else none
 | _=>none
theorem knName_ok:∀f ds d,knName f ds=some d→DPure Tryd.prog f ds d:=fun f ds d h=>by
 unfold knName at h
 split at h
 ·rename_i s
  split at h
  ·rename_i hc
   rw [Bool.and_eq_true,Nat.ble_eq] at hc
   have:=Nat.eq_of_beq_eq_true hc.1
   subst this
   injection h with h;subst h
   exact pwName s hc.2
  ·cases h
 ·cases h
def decF:Nat→Nat→List UInt8
 | 0,_=>[]
 | k+1,n=>UInt8.ofNat (48+n % 10)::(if Nat.blt n 10=true then [] else decF k (n / 10))
theorem decF_eq:∀(k n:Nat),n<10 ^ (k+1)→decF (k+1) n=decR n
 | 0,n,h=>by
  have h1:n<10:=by simpa using h
  rw [decR_eq,decF,if_pos h1,if_pos (by simpa [Nat.blt_eq] using h1)]
 | k+1,n,h=>by
  rw [decR_eq,decF]
  by_cases h1:n<10
  ·rw [if_pos h1,if_pos (by simpa [Nat.blt_eq] using h1)]
  ·rw [if_neg h1,if_neg (by simpa [Nat.blt_eq] using h1),decF_eq k (n / 10) (by rw [Nat.pow_succ] at h;omega)]
def knDig (f:FuncId) (ds:List D):Option D :=
 match ds with
 | [.a (.v (.int .i64 (.ofNat n)))]=>if (Nat.beq f 52&&Nat.blt n 1000000000)=true then some (.a (.v (.string (bs (decF 10 n).reverse)))) else none
 | _=>none
theorem knDig_ok:∀f ds d,knDig f ds=some d→DPure Tryd.prog f ds d:=fun f ds d h=>by
 unfold knDig at h
 split at h
 ·rename_i n
  split at h
  ·rename_i hc
   rw [Bool.and_eq_true,Nat.blt_eq] at hc
   have:=Nat.eq_of_beq_eq_true hc.1
   subst this
   injection h with h;subst h
   rw [decF_eq 9 n (by omega)]
   exact pwDigits n hc.2
  ·cases h
 ·cases h
def rowsStr:List (List A)→Option (List (List UInt8))
 | []=>some []
 | [.v (.string ⟨⟨s⟩⟩)]::r=>(rowsStr r).map fun l=>s::l
 | _=>none
theorem rowsStr_eq:∀{rows:List (List A)} {l:List (List UInt8)},rowsStr rows=some l→rows=l.map strAt
 | [],l,h=>by injection h with h;subst h;rfl
 | x::r,l,h=>by
  unfold rowsStr at h
  split at h
  ·rename_i h0;cases h0
  ·rename_i s r' h0
   injection h0 with h1 h2
   subst h1;subst h2
   rw [Option.map_eq_some_iff] at h
   obtain⟨l',h1,rfl⟩:=h
   rw [rowsStr_eq h1];rfl
  ·cases h
def joinF (sep:List UInt8):List (List UInt8)→List UInt8
 | []=>[]
 | [x]=>x
 | x::r=>x++sep++joinF sep r
theorem joinF_eq (sep:List UInt8):∀l:List (List UInt8),joinF sep l=Lib.join l sep
 | []=>rfl
 | [x]=>by simp [joinF,Lib.join,List.intercalate,List.intersperse]
 | x::y::r=>by
  have:=joinF_eq sep (y::r)
  rw [joinF,this]
  simp [Lib.join,List.intercalate,List.intersperse]
  all_goals simp
def knJoin (f:FuncId) (ds:List D):Option D :=
 match ds with
 | [.a (.sl (x::rows)),.a (.v (.string ⟨⟨s⟩⟩))]=>if Nat.beq f 55=true then (match rowsStr (x::rows) with
  | some l=>if (Nat.ble l.length 1048576&&Nat.ble (joinF s l).length 140737488355328)=true then some (.a (.v (.string (bs (joinF s l))))) else none
  | none=>none) else none
 | _=>none
theorem knJoin_ok:∀f ds d,knJoin f ds=some d→DPure Tryd.prog f ds d:=fun f ds d h=>by
 unfold knJoin at h
 split at h
 ·rename_i x rows s
  split at h
  ·rename_i hf
   have:=Nat.eq_of_beq_eq_true hf
   subst this
   split at h
   ·rename_i l hl
    split at h
    ·rename_i hc
     rw [Bool.and_eq_true,Nat.ble_eq,Nat.ble_eq] at hc
     injection h with h;subst h
     have h1:=rowsStr_eq hl
     rw [h1]
     rw [joinF_eq] at hc ⊢
     exact pJoin l s (fun h0=>by subst h0;cases h1) hc.1 hc.2
    ·cases h
   ·cases h
  ·cases h
 ·cases h
def orK (a b:FuncId→List D→Option D) (f:FuncId) (ds:List D):Option D :=
 match a f ds with
 | some d=>some d
 | none=>b f ds
theorem orK_ok {P:Program} {a b:FuncId→List D→Option D} (ha:∀f ds d,a f ds=some d→DPure P f ds d) (hb:∀f ds d,b f ds=some d→DPure P f ds d):∀f ds d,orK a b f ds=some d→DPure P f ds d:=fun f ds d h=>by
 unfold orK at h
 split at h
 ·rename_i d' h1
  injection h with h;subst h
  exact ha f ds d' h1
 ·exact hb f ds d h
def knP:=orK (orK knName knDig) knJoin
theorem knP_ok:∀f ds d,knP f ds=some d→DPure Tryd.prog f ds d:=orK_ok (orK_ok knName_ok knDig_ok) knJoin_ok
end Go.Proofs.YtbhmfkjbaklfeaaDoor
