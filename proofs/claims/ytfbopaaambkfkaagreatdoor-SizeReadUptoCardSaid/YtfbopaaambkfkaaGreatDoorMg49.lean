/- The document's programs on plain data: how great. Conditions: at most 2^20 of anything. -/
import Derived.Test.YtfbopaaambkfkaaGreatDoorMg42
import Derived.Test.YtfbopaaambkfkaaGreatDoorMg48
import Derived.Test.YtfbopaaambkfkaaGreatDoorMg28
import Derived.Test.YtfbopaaambkfkaaGreatDoorMg22
set_option linter.unusedVariables false
set_option maxRecDepth 100000
set_option maxHeartbeats 8000000
set_option linter.unusedSimpArgs false
namespace Go.Proofs.YtfbopaaambkfkaaGreatDoor
open Go.RowKit
theorem ixt0 {q2:Option (Nat×Nat)} {t:Ty}:ixD (some 11) q2 (.a (.sl [Ty.at t])) (.a (.v (.int .i64 0)))=some (.a (.ref (Ty.at t) 0)):=by
 refine qar (j:=0) (row:=Ty.at t) ?_ ?_ ?_
 ·rfl
 ·rfl
 ·exact Ty.len t
theorem qig (c:Cn) (t:Ty) (h0:0≤c.holes) (h1:c.holes≤1099511627776):DM Tryz.prog 17 [.a (.ptr 0 0),.a (.sl [Ty.at t])] [.cell (Cn.at c)] (.t []) [.cell (Cn.at { c with holes:=c.holes+(t.hole:Int) })]:=by
 have hw:IntKind.i64.wrap (c.holes+1)=c.holes+1:=qah (by omega) (by omega)
 obtain⟨o0,o1,o2,o3⟩:=qgj t
 refine DM.intro Tryz.func17 rfl Tryz.ntmps17 rfl rfl rfl (by simp only [go_sem,simprocAttr]) (fun V0 Kb Nx=>?_)
 have fx:=trivial
 cases hh:(t.kind==2&&t.o0.1==7) with
 | true =>
  have hv:t.hole=1:=by unfold Ty.hole;rw [hh];rfl
  replace fx:=ai12 hw (ai12 hh (ai12 @ixt0 trivial))
  repeat' (first|refine stp [0,1,5,6,7,8,9,21] ?_|(refine RS.sE ?_;refine rnx ?_)|(refine RS.pk ?_;refine rnx ?_)|(refine RS.gF ?_;refine rnx ?_)|(refine RS.lC ?_;refine rnx ?_)|(refine RS.xC ?_;refine rnx ?_)|refine WP.cn (fun hc=>?_) (fun hc=>?_)|refine WP.loop_in ?_|refine WPIn.unroll ?_|fail)
  rw [hv]
  exact qln ⟨rfl,[.cell (Ty.at t)],rfl⟩
 | false =>
  have hv:t.hole=0:=by unfold Ty.hole;rw [hh];rfl
  replace fx:=ai12 hw (ai12 hh (ai12 @ixt0 trivial))
  repeat' (first|refine stp [0,1,5,6,7,8,9,21] ?_|(refine RS.sE ?_;refine rnx ?_)|(refine RS.pk ?_;refine rnx ?_)|(refine RS.gF ?_;refine rnx ?_)|(refine RS.lC ?_;refine rnx ?_)|(refine RS.xC ?_;refine rnx ?_)|refine WP.cn (fun hc=>?_) (fun hc=>?_)|refine WP.loop_in ?_|refine WPIn.unroll ?_|fail)
  rw [hv]
  exact qln ⟨rfl,[.cell (Ty.at t)],by rw [show c.holes+((0:Nat):Int)=c.holes by omega];rfl⟩
theorem qhq (c:Cn) (l:List Vr) (hl:l.length≤1048576) (h0:0≤c.holes) (h1:c.holes≤1000000000000):DM Tryz.prog 16 [.a (.ptr 0 0),.a (.sl (l.map Vr.at))] [.cell (Cn.at c)] (.a (.v (.int .i64 (l.length:Nat)))) [.cell (Cn.at { c with holes:=c.holes+(qb6 l:Int) })]:=by
 refine DM.intro Tryz.func16 rfl Tryz.ntmps16 rfl rfl rfl (by simp only [go_sem,simprocAttr]) (fun V0 Kb Nx=>?_)
 have fx:=trivial
 repeat' (first|refine stp [0,1,4,6,7,8,9,10] ?_|(refine RS.ls ?_;refine rnx ?_)|(refine RS.sE ?_;refine rnx ?_)|(refine RS.lC ?_;refine rnx ?_)|(refine RS.xC ?_;refine rnx ?_)|(refine RS.bC ?_;refine rnx ?_)|refine WP.cn (fun hc=>?_) (fun hc=>?_)|fail)
 refine WP.loopX (α:={ k:Nat // k≤l.length }) (fun y=>[(0,.a (.ptr 0 0)),(1,.a (.sl (l.map Vr.at))),(7,.a (.sl (l.map Vr.at))),(8,.a (.v (.int .i64 (l.length:Nat)))),(9,.a (.v (.int .i64 y.1)))]) (fun y=>[.cell (Cn.at { c with holes:=c.holes+(qb6 (l.take y.1):Int) })]) (fun y=>l.length-y.1) ⟨0,by omega⟩ (by simp only [qal,go_sem,simprocAttr];first|done|simp) (by simp [qb6,qai]) ?_
 rintro⟨k,hk⟩
 dsimp only
 by_cases hlt:k<l.length
 ·have hlt2:decide ((k:Int)<((l.length:Nat):Int))=true:=decide_eq_true (by omega)
  obtain⟨z,hz⟩:∃z,l[k]? = some z:=⟨_,List.getElem?_eq_getElem hlt⟩
  have hzm:z∈l:=lm4 hz
  have hzt:=qag hz
  have hix:∀q2,ixD (some 13) q2 (.a (.sl (l.map Vr.at))) (.a (.v (.int .i64 (k:Int))))=some (.a (.ref (Vr.at z) 0)):=fun q2=>qar rfl (by rw [List.getElem?_map,hz];rfl) (by simp only [go_sem])
  have hw:k<9223372036854775807:=by omega
  have hT:=qcw (l.take k)
  rw [List.length_take] at hT
  replace fx:=ai12 hlt2 (ai12 hix (ai12 hw trivial))
  repeat' (first|refine stp [0,1,4,6,7,8,9,10] ?_|(refine RS.ls ?_;refine rnx ?_)|(refine RS.sE ?_;refine rnx ?_)|(refine RS.lC ?_;refine rnx ?_)|(refine RS.xC ?_;refine rnx ?_)|(refine RS.bC ?_;refine rnx ?_)|(refine RS.cM [0] (hp:=by exact qig _ z.ty (by dsimp only;omega) (by dsimp only;omega)) (h:=?_);refine rnx ?_)|refine WP.cn (fun hc=>?_) (fun hc=>?_)|fail)
  have hsum:qb6 (l.take (k+1))=qb6 (l.take k)+z.ty.hole:=by unfold qb6;rw [hzt,qav,qaw];rfl
  refine⟨⟨k+1,by omega⟩,[.cell (Vr.at z)],by dsimp only;omega,by simp only [qal,go_sem,simprocAttr,and_true,and_self],?_,rfl,by simp only [go_sem,Cn.nr]⟩
  dsimp only
  rw [hsum,show c.holes+((qb6 (l.take k)+z.ty.hole:Nat):Int)=c.holes+(qb6 (l.take k):Int)+(z.ty.hole:Int) by omega];rfl
 obtain rfl:k=l.length:=by omega
 have hel:l.take l.length=l:=List.take_length
 have hlt2:decide ((l.length:Int)<(l.length:Int))=false:=decide_eq_false (by omega)
 replace fx:=ai12 hlt2 (ai12 hel trivial)
 repeat' (first|refine stp [0,1,4,6,7,8,9,10] ?_|(refine RS.ls ?_;refine rnx ?_)|(refine RS.sE ?_;refine rnx ?_)|(refine RS.lC ?_;refine rnx ?_)|(refine RS.xC ?_;refine rnx ?_)|(refine RS.bC ?_;refine rnx ?_)|refine WP.cn (fun hc=>?_) (fun hc=>?_)|fail)
 exact retM1 ⟨rfl,[],rfl⟩
def Cn.add (c:Cn) (l:List St) (deep:Int):Cn:={ c with stmts:=c.stmts+(St.cnts l:Int),deep:=max c.deep (deep+(St.deeps l:Int)-1),holes:=c.holes+(St.inns l:Int) }
def Cn.mid (c:Cn) (m:List St) (deep:Int):Cn:={ c with stmts:=c.stmts+(St.cnts m:Int),deep:=max (max c.deep deep) (deep+(St.deeps m:Int)-1),holes:=c.holes+(St.inns m:Int) }
theorem Cn.mid_nil (c:Cn) (deep:Int):c.mid [] deep={ c with deep:=max c.deep deep }:=by
 unfold Cn.mid;rw [St.cnts,St.deeps,St.inns];congr 1<;>omega
theorem Cn.mid_add (c:Cn) (m:List St) (deep:Int) (h:1≤St.deeps m):c.mid m deep=c.add m deep:=by
 unfold Cn.mid Cn.add;congr 1;omega
theorem St.inns_app1 (m:List St) (z:St):St.inns (m++[z])=St.inns m+z.inn:=by rw [St.inns_sum,St.inns_sum,qav,qaw]
theorem Cn.mid_snoc (c:Cn) (m:List St) (z:St) (deep:Int) :
  (({ c.mid m deep with stmts:=(c.mid m deep).stmts+1,holes:=(c.mid m deep).holes+(z.ty.hole:Int) }:Cn).add z.body (deep+1)).add z.els (deep+1)=c.mid (m++[z]) deep:=by
 unfold Cn.add Cn.mid
 rw [St.cnts_app,St.cnts_one,St.cnt_eq,St.deeps_app,St.deeps_one,St.deep_eq,St.inns_app1,St.inn_eq]
 dsimp only
 congr 1<;>omega
theorem qlr (l:List St) (c:Cn) (deep:Int) (hz:St.szs l≤1048576) (s0:0≤c.stmts) (s1:c.stmts+(St.szs l:Int)≤1000000000000) (h0:0≤c.holes) (h1:c.holes+(St.szs l:Int)≤1000000000000) (d0:0≤deep) (d1:deep+(St.szs l:Int)≤1000000000000) (d2:deep-1≤c.deep):DM Tryz.prog 18 [.a (.ptr 0 0),.a (.sl (l.map St.at)),.a (.v (.int .i64 deep))] [.cell (Cn.at c)] (.t []) [.cell (Cn.at (c.add l deep))]:=by
 have hll:=St.szs_len l
 have hwd:IntKind.i64.wrap (deep+1)=deep+1:=qah (by omega) (by omega)
 refine DM.intro Tryz.func18 rfl Tryz.ntmps18 rfl rfl rfl (by simp only [go_sem,simprocAttr]) (fun V0 Kb Nx=>?_)
 have fx:=trivial
 by_cases hnil:l=[]
 ·subst hnil
  repeat' (first|refine stp [0,1,2,7,10,20,21,22,23] ?_|(refine RS.ls ?_;refine rnx ?_)|(refine RS.sE ?_;refine rnx ?_)|(refine RS.lC ?_;refine rnx ?_)|(refine RS.xC ?_;refine rnx ?_)|(refine RS.bC ?_;refine rnx ?_)|refine WP.cn (fun hc=>?_) (fun hc=>?_)|refine WP.loop_in ?_|refine WPIn.unroll ?_|fail)
  refine qln ⟨rfl,[],?_⟩
  rw [show c.add [] deep=c by unfold Cn.add;rw [St.cnts,St.deeps,St.inns];obtain⟨q1,q2,q3,q4,q5,q6,q7⟩:=c;dsimp only at *;congr 1<;>omega];rfl
 ·have hpos:0<l.length:=List.length_pos_iff.2 hnil
  have hdp:1≤St.deeps l:=by
   cases l with
   | nil=>exact absurd rfl hnil
   | cons s0 r0=>rw [St.deeps,St.deep_eq];omega
  have hgt:decide ((l.length:Int)>0)=true:=decide_eq_true (by omega)
  have IB:∀k∈l,∀(c:Cn) (deep:Int),0≤c.stmts→c.stmts+(St.szs k.body:Int)≤1000000000000→0≤c.holes→c.holes+(St.szs k.body:Int)≤1000000000000→0≤deep→deep+(St.szs k.body:Int)≤1000000000000→deep-1≤c.deep→DM Tryz.prog 18 [.a (.ptr 0 0),.a (.sl (k.body.map St.at)),.a (.v (.int .i64 deep))] [.cell (Cn.at c)] (.t []) [.cell (Cn.at (c.add k.body deep))]:=fun k hk c deep=>qlr k.body c deep (by have:=St.szs_mem hk;have:=k.sz_eq;omega)
  have IE:∀k∈l,∀(c:Cn) (deep:Int),0≤c.stmts→c.stmts+(St.szs k.els:Int)≤1000000000000→0≤c.holes→c.holes+(St.szs k.els:Int)≤1000000000000→0≤deep→deep+(St.szs k.els:Int)≤1000000000000→deep-1≤c.deep→DM Tryz.prog 18 [.a (.ptr 0 0),.a (.sl (k.els.map St.at)),.a (.v (.int .i64 deep))] [.cell (Cn.at c)] (.t []) [.cell (Cn.at (c.add k.els deep))]:=fun k hk c deep=>qlr k.els c deep (by have:=St.szs_mem hk;have:=k.sz_eq;omega)
  replace fx:=ai12 hgt trivial
  repeat' (first|refine stp [0,1,2,7,10,20,21,22,23] ?_|(refine RS.ls ?_;refine rnx ?_)|(refine RS.sE ?_;refine rnx ?_)|(refine RS.lC ?_;refine rnx ?_)|(refine RS.xC ?_;refine rnx ?_)|(refine RS.bC ?_;refine rnx ?_)|refine WP.cn (fun hc=>?_) (fun hc=>?_)|fail)
  refine WP.loopX (α:={ k:Nat // k≤l.length }) (fun y=>[(0,.a (.ptr 0 0)),(2,.a (.v (.int .i64 deep))),(20,.a (.sl (l.map St.at))),(21,.a (.v (.int .i64 (l.length:Nat)))),(22,.a (.v (.int .i64 y.1)))]) (fun y=>[.cell (Cn.at (c.mid (l.take y.1) deep))]) (fun y=>l.length-y.1) ⟨0,by omega⟩ (by simp only [qal,go_sem,simprocAttr];first|done|simp) (by rw [List.take_zero,Cn.mid_nil]) ?_
  rintro⟨k,hk⟩
  dsimp only
  by_cases hlt:k<l.length
  ·have hlt2:decide ((k:Int)<((l.length:Nat):Int))=true:=decide_eq_true (by omega)
   obtain⟨z,hz⟩:∃z,l[k]? = some z:=⟨_,List.getElem?_eq_getElem hlt⟩
   have hzm:z∈l:=lm4 hz
   have hzt:=qag hz
   have hix:∀q2,ixD (some 23) q2 (.a (.sl (l.map St.at))) (.a (.v (.int .i64 (k:Int))))=some (.a (.ref (St.at z) 0)):=fun q2=>qar rfl (by rw [List.getElem?_map,hz];rfl) (by simp only [go_sem])
   have hw:k<9223372036854775807:=by omega
   have hwt:St.szs (l.take k)+z.sz≤St.szs l:=by
    have:=qdc St.sz l (k+1)
    rw [hzt,qav,qaw,←qe7,←qe7] at this
    exact this
   have hzs:=z.sz_eq
   have hc1:=(St.deeps_le (l.take k) fun e _=>St.deep_le _ e (Nat.le_refl _))
   have hc2:=St.inns_le (l.take k)
   have hc3:=(St.deeps_le z.body fun e _=>St.deep_le _ e (Nat.le_refl _))
   have hc4:=St.inns_le z.body
   have hc5:=z.ty.hole_le
   have hw5:IntKind.i64.wrap ((c.mid (l.take k) deep).stmts+1)=(c.mid (l.take k) deep).stmts+1:=qah (by unfold Cn.mid;dsimp only;omega) (by unfold Cn.mid;dsimp only;omega)
   replace fx:=ai12 hlt2 (ai12 hix (ai12 hw (ai12 hw5 (ai12 hwd trivial))))
   repeat' (first|refine stp [0,1,2,7,10,20,21,22,23] ?_|(refine RS.ls ?_;refine rnx ?_)|(refine RS.sE ?_;refine rnx ?_)|(refine RS.lC ?_;refine rnx ?_)|(refine RS.xC ?_;refine rnx ?_)|(refine RS.bC ?_;refine rnx ?_)|(refine RS.cM [0] (hp:=by first|exact qig _ z.ty (by unfold Cn.mid;dsimp only;omega) (by unfold Cn.mid;dsimp only;omega)|(refine IB z hzm _ _ ?_ ?_ ?_ ?_ ?_ ?_ ?_<;>(first|omega|(simp only [Cn.mid];omega)))|(refine IE z hzm _ _ ?_ ?_ ?_ ?_ ?_ ?_ ?_<;>(first|omega|(simp only [Cn.add,Cn.mid];omega)))) (h:=?_);refine rnx ?_)|refine WP.cn (fun hc=>?_) (fun hc=>?_)|fail)
   refine⟨⟨k+1,by omega⟩,[.cell (St.at z)],by dsimp only;omega,by simp only [qal,go_sem,simprocAttr,and_true,and_self],?_,rfl,by simp only [go_sem,Cn.nr]⟩
   dsimp only
   rw [hzt,←Cn.mid_snoc];rfl
  obtain rfl:k=l.length:=by omega
  have hel:l.take l.length=l:=List.take_length
  have hlt2:decide ((l.length:Int)<(l.length:Int))=false:=decide_eq_false (by omega)
  replace fx:=ai12 hlt2 (ai12 hel trivial)
  repeat' (first|refine stp [0,1,2,7,10,20,21,22,23] ?_|(refine RS.ls ?_;refine rnx ?_)|(refine RS.sE ?_;refine rnx ?_)|(refine RS.lC ?_;refine rnx ?_)|(refine RS.xC ?_;refine rnx ?_)|(refine RS.bC ?_;refine rnx ?_)|refine WP.cn (fun hc=>?_) (fun hc=>?_)|fail)
  exact qln ⟨rfl,[],by rw [Cn.mid_add c l deep hdp];rfl⟩
 termination_by St.szs l
 decreasing_by all_goals (have h7:=St.szs_mem hk;have h8:=k.sz_eq;omega)
def ofM (n:Nat) (l:List Cs) (z:Cs) (ms:List Me):Cn:=⟨n,(qai Cs.nf l+z.fields.length:Nat),(qai Cs.nm l+z.methods.length:Nat),(qai Cs.nv l+qai Me.vars ms:Nat),(qai Cs.stmts l+qai (fun m:Me=>St.cnts m.body) ms:Nat),(max (qc8 Cs.deep l) (qc8 Me.deep ms):Nat),(qai Cs.nh l+qb6 z.fields+qai Me.holes ms:Nat)⟩
theorem ofM_nil (n:Nat) (l:List Cs) (z:Cs):ofM n l z []={ ofT n l with fields:=(ofT n l).fields+(z.fields.length:Int),methods:=(ofT n l).methods+(z.methods.length:Int),holes:=(ofT n l).holes+(qb6 z.fields:Int) }:=by
 unfold ofM ofT
 simp only [qai,qc8]
 congr 1<;>omega
theorem ofM_all (n:Nat) (l:List Cs) (z:Cs):ofM n l z z.methods=ofT n (l++[z]):=by
 unfold ofM ofT
 rw [qav,qaw,qav,qaw,qav,qaw,qav,qaw,qav,qaw,qgy,qjo]
 unfold Cs.nf Cs.nm Cs.nv Cs.stmts Cs.deep Cs.nh
 congr 1
 omega
theorem ofM_snoc (n:Nat) (l:List Cs) (z:Cs) (ms:List Me) (m:Me) :
  ({ ofM n l z ms with vars:=(ofM n l z ms).vars+((m.params.length:Int)+(m.locals.length:Int)),holes:=(ofM n l z ms).holes+(m.ret.hole:Int)+(qb6 m.params:Int)+(qb6 m.locals:Int) }:Cn).add m.body 1=ofM n l z (ms++[m]):=by
 unfold Cn.add ofM
 rw [qav,qaw,qav,qaw,qav,qaw,qgy,qjo]
 unfold Me.vars Me.holes Me.deep
 dsimp only
 congr 1<;>omega
theorem czero:[A.v (.int .i64 0),.v (.int .i64 0),.v (.int .i64 0),.v (.int .i64 0),.v (.int .i64 0),.v (.int .i64 0),.v (.int .i64 0)]=Cn.at Cn.zero:=rfl
theorem pzOf (l:List Cs) (hz:qai Cs.sz l≤1048576):qaa Tryz.prog 6 [.a (.sl (l.map Cs.at))] (.r (Cn.at (ofP l))):=by
 have hll:=qax Cs.sz_pos l
 refine qaa.go Tryz.func6 rfl Tryz.ntmps6 rfl rfl rfl (fun C hro=>?_)
 have fx:=trivial
 have cz:=czero
 replace fx:=ai12 cz trivial
 repeat' (first|(refine RWL.fin ?_;try simp only [qab,qae])|refine stp [0,2,3,5,7,11,12,13,14,32,33,34,35] ?_|(refine RS.ls ?_;refine rnx ?_)|(refine RS.sE ?_;refine rnx ?_)|(refine RS.lC ?_;refine rnx ?_)|(refine RS.xC ?_;refine rnx ?_)|(refine RS.bC ?_;refine rnx ?_)|refine RWL.fr ?_|refine RWL.wt ?_|refine RWL.lS ?_|refine RWL.bC ?_|(refine' WP.dl (id:=5) [0,1,0,4,12,31,63,127] [0,2,3,5,7,11,12,13,14,32,33,34,35] [4,7] [(4,_),(7,_)] ?_)|(refine' WP.dl (id:=11) [0,1,0,4,12,0,32,124,252,511,1023,2047] [0,2,3,5,7,11,12,13,14,32,33,34,35] [4,7,11] [(4,_),(7,_),(11,_)] ?_)|refine RWL.re ?_ ?_|refine RdO.oz|refine RdO.oa ?_|refine RdO.oe ?_|refine RdO.on|refine WP.cn (fun hc=>?_) (fun hc=>?_)|fail)
 refine WP.loopX (α:={ k:Nat // k≤l.length }) (fun y=>[(2,.a (.ptr 0 0)),(3,.a (.ptr 1 0)),(11,.a (.sl (l.map Cs.at))),(12,.a (.v (.int .i64 (l.length:Nat)))),(13,.a (.v (.int .i64 y.1)))]) (fun y=>[.cell (Cn.at Cn.zero),.cell (Cn.at (ofT l.length (l.take y.1)))]) (fun y=>l.length-y.1) ⟨0,by omega⟩ (by simp only [qal,go_sem,simprocAttr];first|done|simp) (by first|done|rfl) ?_
 rintro⟨k,hk⟩
 dsimp only
 by_cases hlt:k<l.length
 ·have hlt2:decide ((k:Int)<((l.length:Nat):Int))=true:=decide_eq_true (by omega)
  obtain⟨z,hz⟩:∃z,l[k]? = some z:=⟨_,List.getElem?_eq_getElem hlt⟩
  have hzm:z∈l:=lm4 hz
  have hzt:=qag hz
  have hix:∀q2,ixD (some 7) q2 (.a (.sl (l.map Cs.at))) (.a (.v (.int .i64 (k:Int))))=some (.a (.ref (Cs.at z) 0)):=fun q2=>qar rfl (by rw [List.getElem?_map,hz];rfl) (by simp only [go_sem])
  have hw:k<9223372036854775807:=by omega
  have hzz:z.sz≤1048576:=by have:=qa5 (f:=Cs.sz) hzm;omega
  obtain⟨y1,y2,y3,y4,y5,y6,y7,y8,y9⟩:=Cs.szH hzz
  have hwt:qai Cs.sz (l.take k)≤1048576:=by have:=qdc Cs.sz l k;omega
  obtain⟨R,hR⟩:∃R,R=ofT l.length (l.take k):=⟨_,rfl⟩
  have b1:qai Cs.nf (l.take k)≤qai Cs.sz (l.take k):=qbb _ fun c _=>c.nf_le
  have b2:qai Cs.nm (l.take k)≤qai Cs.sz (l.take k):=qbb _ fun c _=>c.nm_le
  have b3:qai Cs.nv (l.take k)≤qai Cs.sz (l.take k):=qbb _ fun c _=>c.nv_le
  have b4:qai Cs.stmts (l.take k)≤qai Cs.sz (l.take k):=qbb _ fun c _=>c.stmts_le
  have b5:qai Cs.nh (l.take k)≤qai Cs.sz (l.take k):=qbb _ fun c _=>c.nh_le
  have f1:R.fields=(qai Cs.nf (l.take k):Nat):=by rw [hR];rfl
  have f2:R.methods=(qai Cs.nm (l.take k):Nat):=by rw [hR];rfl
  have f5:R.holes=(qai Cs.nh (l.take k):Nat):=by rw [hR];rfl
  have w1:IntKind.i64.wrap (R.fields+(z.fields.length:Int))=R.fields+(z.fields.length:Int):=qah (by omega) (by omega)
  have w2:IntKind.i64.wrap (R.methods+(z.methods.length:Int))=R.methods+(z.methods.length:Int):=qah (by omega) (by omega)
  rw [←hR]
  replace fx:=ai12 hlt2 (ai12 hix (ai12 hw (ai12 w1 (ai12 w2 trivial))))
  repeat' (first|(refine RWL.fin ?_;try simp only [qab,qae])|refine stp [0,2,3,5,7,11,12,13,14,32,33,34,35] ?_|(refine RS.ls ?_;refine rnx ?_)|(refine RS.sE ?_;refine rnx ?_)|(refine RS.lC ?_;refine rnx ?_)|(refine RS.xC ?_;refine rnx ?_)|(refine RS.bC ?_;refine rnx ?_)|refine RWL.fr ?_|refine RWL.wt ?_|refine RWL.lS ?_|refine RWL.bC ?_|(refine RS.cM [1] (hp:=by exact qhq R _ (by omega) (by omega) (by omega)) (h:=?_);refine rnx ?_)|(refine' WP.dl (id:=5) [0,1,0,4,12,31,63,127] [0,2,3,5,7,11,12,13,14,32,33,34,35] [4,7] [(4,_),(7,_)] ?_)|(refine' WP.dl (id:=11) [0,1,0,4,12,0,32,124,252,511,1023,2047] [0,2,3,5,7,11,12,13,14,32,33,34,35] [4,7,11] [(4,_),(7,_),(11,_)] ?_)|(refine RWL.cM [1] (hp:=by exact qhq R _ (by omega) (by omega) (by omega)) (h:=?_))|refine RWL.re ?_ ?_|refine RdO.oz|refine RdO.oa ?_|refine RdO.oe ?_|refine RdO.on|refine WP.cn (fun hc=>?_) (fun hc=>?_)|fail)
  refine WP.loopX (α:={ j:Nat // j≤z.methods.length }) (fun y=>[(2,.a (.ptr 0 0)),(3,.a (.ptr 1 0)),(11,.a (.sl (l.map Cs.at))),(12,.a (.v (.int .i64 (l.length:Nat)))),(13,.a (.v (.int .i64 k))),(32,.a (.sl (z.methods.map Me.at))),(33,.a (.v (.int .i64 (z.methods.length:Nat)))),(34,.a (.v (.int .i64 y.1)))]) (fun y=>[.cell (Cn.at Cn.zero),.cell (Cn.at (ofM l.length (l.take k) z (z.methods.take y.1))),.cell (Cs.at z)]) (fun y=>z.methods.length-y.1) ⟨0,by omega⟩ (by simp only [qal,go_sem,simprocAttr];first|done|simp) (by rw [List.take_zero,ofM_nil,←hR]) ?_
  rintro⟨j,hj⟩
  dsimp only
  by_cases hlj:j<z.methods.length
  ·have hlt3:decide ((j:Int)<((z.methods.length:Nat):Int))=true:=decide_eq_true (by omega)
   obtain⟨m,hm⟩:∃m,z.methods[j]? = some m:=⟨_,List.getElem?_eq_getElem hlj⟩
   have hmm:m∈z.methods:=lm4 hm
   have hmt:=qag hm
   have hiz:∀q2,ixD (some 17) q2 (.a (.sl (z.methods.map Me.at))) (.a (.v (.int .i64 (j:Int))))=some (.a (.ref (Me.at m) 0)):=fun q2=>qar rfl (by rw [List.getElem?_map,hm];rfl) (by simp only [go_sem])
   have hw2:j<9223372036854775807:=by omega
   have hmz:m.sz≤1048576:=by have:=qa5 (f:=Me.sz) hmm;omega
   obtain⟨u1,u2,u3,u4,u5,u6⟩:=Me.szH hmz
   have q0:qai Me.sz (z.methods.take j)≤qai Me.sz z.methods:=qdc Me.sz z.methods j
   have q3:qai Me.vars (z.methods.take j)≤qai Me.sz (z.methods.take j):=qbb _ fun m _=>m.vars_le
   have q4:qai (fun m:Me=>St.cnts m.body) (z.methods.take j)≤qai Me.sz (z.methods.take j):=qbb _ fun m _=>by have:=(St.deeps_le m.body fun e _=>St.deep_le _ e (Nat.le_refl _)).2;unfold Me.sz;omega
   have q5:qai Me.holes (z.methods.take j)≤qai Me.sz (z.methods.take j):=qbb _ fun m _=>m.holes_le
   have hfh:=qcw z.fields
   have hph:=qcw m.params
   have hlh:=qcw m.locals
   have hrh:=m.ret.hole_le
   obtain⟨T,hT⟩:∃T,T=ofM l.length (l.take k) z (z.methods.take j):=⟨_,rfl⟩
   have g3:T.vars=(qai Cs.nv (l.take k)+qai Me.vars (z.methods.take j):Nat):=by rw [hT];rfl
   have g4:T.stmts=(qai Cs.stmts (l.take k)+qai (fun m:Me=>St.cnts m.body) (z.methods.take j):Nat):=by rw [hT];rfl
   have g5:T.deep=(max (qc8 Cs.deep (l.take k)) (qc8 Me.deep (z.methods.take j)):Nat):=by rw [hT];rfl
   have g6:T.holes=(qai Cs.nh (l.take k)+qb6 z.fields+qai Me.holes (z.methods.take j):Nat):=by rw [hT];rfl
   have v1:IntKind.i64.wrap ((m.params.length:Int)+(m.locals.length:Int))=(m.params.length:Int)+(m.locals.length:Int):=qah (by omega) (by omega)
   have v2:IntKind.i64.wrap (T.vars+((m.params.length:Int)+(m.locals.length:Int)))=T.vars+((m.params.length:Int)+(m.locals.length:Int)):=qah (by omega) (by omega)
   rw [←hT]
   replace fx:=ai12 hlt3 (ai12 hiz (ai12 hw2 (ai12 v1 (ai12 v2 trivial))))
   repeat' (first|(refine RWL.fin ?_;try simp only [qab,qae])|refine stp [0,2,3,5,7,11,12,13,14,32,33,34,35] ?_|(refine RS.ls ?_;refine rnx ?_)|(refine RS.sE ?_;refine rnx ?_)|(refine RS.lC ?_;refine rnx ?_)|(refine RS.xC ?_;refine rnx ?_)|(refine RS.bC ?_;refine rnx ?_)|refine RWL.fr ?_|refine RWL.wt ?_|refine RWL.lS ?_|refine RWL.bC ?_|(refine RS.cM [1] (hp:=by exact qig T _ (by omega) (by omega)) (h:=?_);refine rnx ?_)|(refine RS.cM [1] (hp:=by exact qhq { T with holes:=T.holes+(m.ret.hole:Int) } m.params (by omega) (by dsimp only;omega) (by dsimp only;omega)) (h:=?_);refine rnx ?_)|(refine RS.cM [1] (hp:=by exact qhq { T with holes:=T.holes+(m.ret.hole:Int)+(qb6 m.params:Int) } m.locals (by omega) (by dsimp only;omega) (by dsimp only;omega)) (h:=?_);refine rnx ?_)|(refine RS.cM [1] (hp:=by (refine qlr m.body _ 1 ?_ ?_ ?_ ?_ ?_ ?_ ?_ ?_<;>(first|omega|(dsimp only;omega)))) (h:=?_);refine rnx ?_)|(refine' WP.dl (id:=5) [0,1,0,4,12,31,63,127] [0,2,3,5,7,11,12,13,14,32,33,34,35] [4,7] [(4,_),(7,_)] ?_)|(refine' WP.dl (id:=11) [0,1,0,4,12,0,32,124,252,511,1023,2047] [0,2,3,5,7,11,12,13,14,32,33,34,35] [4,7,11] [(4,_),(7,_),(11,_)] ?_)|(refine RWL.cM [1] (hp:=by exact qig T _ (by omega) (by omega)) (h:=?_))|(refine RWL.cM [1] (hp:=by exact qhq { T with holes:=T.holes+(m.ret.hole:Int) } m.params (by omega) (by dsimp only;omega) (by dsimp only;omega)) (h:=?_))|(refine RWL.cM [1] (hp:=by exact qhq { T with holes:=T.holes+(m.ret.hole:Int)+(qb6 m.params:Int) } m.locals (by omega) (by dsimp only;omega) (by dsimp only;omega)) (h:=?_))|(refine RWL.cM [1] (hp:=by (refine qlr m.body _ 1 ?_ ?_ ?_ ?_ ?_ ?_ ?_ ?_<;>(first|omega|(dsimp only;omega)))) (h:=?_))|refine RWL.re ?_ ?_|refine RdO.oz|refine RdO.oa ?_|refine RdO.oe ?_|refine RdO.on|refine WP.cn (fun hc=>?_) (fun hc=>?_)|fail)
   refine⟨⟨j+1,by omega⟩,[.cell (Me.at m)],by dsimp only;omega,by simp only [qal,go_sem,simprocAttr,and_true,and_self],?_,rfl,by simp only [go_sem,Cn.nr,Bool.and_self]⟩
   dsimp only
   rw [hmt,←ofM_snoc,←hT];rfl
  obtain rfl:j=z.methods.length:=by omega
  have hlt3:decide ((z.methods.length:Int)<(z.methods.length:Int))=false:=decide_eq_false (by omega)
  have hel:z.methods.take z.methods.length=z.methods:=List.take_length
  replace fx:=ai12 hlt3 (ai12 hw (ai12 hel trivial))
  repeat' (first|(refine RWL.fin ?_;try simp only [qab,qae])|refine stp [0,2,3,5,7,11,12,13,14,32,33,34,35] ?_|(refine RS.ls ?_;refine rnx ?_)|(refine RS.sE ?_;refine rnx ?_)|(refine RS.lC ?_;refine rnx ?_)|(refine RS.xC ?_;refine rnx ?_)|(refine RS.bC ?_;refine rnx ?_)|refine RWL.fr ?_|refine RWL.wt ?_|refine RWL.lS ?_|refine RWL.bC ?_|(refine' WP.dl (id:=5) [0,1,0,4,12,31,63,127] [0,2,3,5,7,11,12,13,14,32,33,34,35] [4,7] [(4,_),(7,_)] ?_)|(refine' WP.dl (id:=11) [0,1,0,4,12,0,32,124,252,511,1023,2047] [0,2,3,5,7,11,12,13,14,32,33,34,35] [4,7,11] [(4,_),(7,_),(11,_)] ?_)|refine RWL.re ?_ ?_|refine RdO.oz|refine RdO.oa ?_|refine RdO.oe ?_|refine RdO.on|refine WP.cn (fun hc=>?_) (fun hc=>?_)|fail)
  refine⟨⟨k+1,by omega⟩,[.cell (Cs.at z)],by dsimp only;omega,by simp only [qal,go_sem,simprocAttr,and_true,and_self],?_,rfl,by simp only [go_sem,Cn.nr,Bool.and_self]⟩
  dsimp only
  rw [hzt,←ofM_all];rfl
 obtain rfl:k=l.length:=by omega
 have hlt2:decide ((l.length:Int)<(l.length:Int))=false:=decide_eq_false (by omega)
 have hel:l.take l.length=l:=List.take_length
 replace fx:=ai12 hlt2 (ai12 hel trivial)
 repeat' (first|(refine RWL.fin ?_;try simp only [qab,qae])|refine stp [0,2,3,5,7,11,12,13,14,32,33,34,35] ?_|(refine RS.ls ?_;refine rnx ?_)|(refine RS.sE ?_;refine rnx ?_)|(refine RS.lC ?_;refine rnx ?_)|(refine RS.xC ?_;refine rnx ?_)|(refine RS.bC ?_;refine rnx ?_)|refine RWL.fr ?_|refine RWL.wt ?_|refine RWL.lS ?_|refine RWL.bC ?_|(refine' WP.dl (id:=5) [0,1,0,4,12,31,63,127] [0,2,3,5,7,11,12,13,14,32,33,34,35] [4,7] [(4,_),(7,_)] ?_)|(refine' WP.dl (id:=11) [0,1,0,4,12,0,32,124,252,511,1023,2047] [0,2,3,5,7,11,12,13,14,32,33,34,35] [4,7,11] [(4,_),(7,_),(11,_)] ?_)|refine RWL.re ?_ ?_|refine RdO.oz|refine RdO.oa ?_|refine RdO.oe ?_|refine RdO.on|refine WP.cn (fun hc=>?_) (fun hc=>?_)|fail)
 rfl
theorem pzRight1 (c:Cs) (hz:c.sz≤1048576):qaa Tryz.prog 20 [.r (Cs.at c)] (.a (.v (.bool (!c.rightB)))):=by
 refine qaa.go Tryz.func20 rfl Tryz.ntmps20 rfl rfl rfl (fun C hro=>?_)
 have fx:=trivial
 repeat' (first|refine stp [0,1,2] ?_|(refine stc (r1:=by exact pzCls c hz) (r2:=?_);refine rnx ?_)|fail)
 rfl
theorem qkh (l:List Cs) (hz:qai Cs.sz l≤1048576):qaa Tryz.prog 7 [.a (.sl (l.map Cs.at))] (.a (.v (.bool (rightB l)))):=by
 have hll:=qax Cs.sz_pos l
 refine qaa.go Tryz.func7 rfl Tryz.ntmps7 rfl rfl rfl (fun C hro=>?_)
 have fx:=trivial
 repeat' (first|refine stp [0,2] ?_|(refine stc (r1:=by first|exact pzOf l hz|exact pCfClass (fun c=>!c.rightB) l 20 [] rfl (by omega) fun c hc=>pzRight1 c (by have:=qa5 (f:=Cs.sz) hc;omega)) (r2:=?_);refine rnx ?_)|fail)
 refine qaf ?_
 have h1:(ofP l).stmts=((qai Cs.stmts l:Nat):Int):=rfl
 unfold rightB
 rw [h1,qb2]
 congr 1
 by_cases hn:(l.length:Int)≤20
 ·rw [decide_eq_true hn,decide_eq_false (show ¬(l.length:Int)>20 by omega),Bool.true_and]
  congr 1
  funext c
  simp
 ·rw [decide_eq_false hn,decide_eq_true (show (l.length:Int)>20 by omega),Bool.false_and]
  cases l with
  | nil=>simp at hn
  | cons c r=>simp
def awk:Cs:=⟨[65],[],[],[],[⟨[102],⟨2,[65],0,(7,0),(0,0),(0,0),(0,0)⟩,0⟩],[],0⟩
theorem awk_right:rightB [awk]=true:=by decide
theorem awk_sz:qai Cs.sz [awk]≤1048576:=by decide
theorem plc40:plc Tryz.prog 39 0=some (0,2):=by kernel_rfl
theorem tz0:Ty.at Ty.zero=[.v (.int .i64 0),.v (.string (bs [])),.v (.int .i64 0),.v (.int .i64 0),.v (.int .i64 0),.v (.int .i64 0),.v (.int .i64 0),.v (.int .i64 0),.v (.int .i64 0),.v (.int .i64 0),.v (.int .i64 0)]:=rfl
theorem vz0:Vr.at Vr.zero=[.v (.string (bs [])),.v (.int .i64 0),.v (.string (bs [])),.v (.int .i64 0),.v (.int .i64 0),.v (.int .i64 0),.v (.int .i64 0),.v (.int .i64 0),.v (.int .i64 0),.v (.int .i64 0),.v (.int .i64 0),.v (.int .i64 0),.v (.int .i64 0)]:=rfl
theorem cz0:Cs.at Cs.zero=[.v (.string (bs [])),.sl [],.v (.string (bs [])),.sl [],.sl [],.sl [],.v (.int .i64 0)]:=rfl
theorem pzOfA:qaa Tryz.prog 6 [.a (.sl ([awk].map Cs.at))] (.r [.v (.int .i64 1),.v (.int .i64 1),.v (.int .i64 0),.v (.int .i64 0),.v (.int .i64 0),.v (.int .i64 0),.v (.int .i64 1)]):=pzOf [awk] awk_sz
theorem eqAw:eqR false (some [1,1,1,1,1,1,1]) [.v (.int .i64 1),.v (.int .i64 1),.v (.int .i64 0),.v (.int .i64 0),.v (.int .i64 0),.v (.int .i64 0),.v (.int .i64 1)] [.v (.int .i64 1),.v (.int .i64 1),.v (.int .i64 0),.v (.int .i64 0),.v (.int .i64 0),.v (.int .i64 0),.v (.int .i64 1)]=some (.a (.v (.bool true))):=by rfl
theorem ow0:owAt (0,0)=[.v (.int .i64 0),.v (.int .i64 0)]:=rfl
theorem qlx:qaa Tryz.prog 4 [] (.a (.v (.bool true))):=by
 refine qaa.go Tryz.func4 rfl Tryz.ntmps4 rfl rfl rfl (fun C hro=>?_)
 have fx:=trivial
 repeat' (first|refine WP.seq ?_|(refine WP.reg [0,1] (by kernel_rfl) (by kernel_rfl) ?_;refine RS.run2 (by simp only [go_sem,simprocAttr,qab,plc40,vz0,cz0,tz0,ow0,qak,List.take_succ_cons,List.take_zero,List.drop_succ_cons,List.drop_zero,List.drop_nil,List.take_nil,List.cons_append,List.nil_append,List.append_nil,List.length_cons,List.length_nil];first|done|rfl) ?_;simp only [qao])|(first|refine RS.finT (by simp only [go_sem,simprocAttr];first|done|rfl) ?_|refine RS.fin (by simp only [go_sem,simprocAttr];first|done|rfl) ?_;(try simp only [qab,qae]))|(refine RS.call (by simp only [go_sem,simprocAttr,qab];first|done|rfl) (by simp only [go_sem,List.all_cons,List.all_nil,Bool.and_true,qab]) (by exact qkh [awk] awk_sz) ?_;refine RS.run2 (by simp only [go_sem,simprocAttr,qab];first|done|rfl) ?_;simp only [qao])|(refine RS.call (by simp only [go_sem,simprocAttr,qab,eqAw,qak,List.take_succ_cons,List.take_zero,List.drop_succ_cons,List.drop_zero,List.drop_nil,List.take_nil,List.cons_append,List.nil_append,List.append_nil,List.length_cons,List.length_nil];first|done|rfl) (by simp only [go_sem,List.all_cons,List.all_nil,Bool.and_true,qab,eqAw,qak,List.take_succ_cons,List.take_zero,List.drop_succ_cons,List.drop_zero,List.drop_nil,List.take_nil,List.cons_append,List.nil_append,List.append_nil,List.length_cons,List.length_nil]) (by exact pzOfA) ?_;refine RS.run2 (by simp only [go_sem,simprocAttr,qab,eqAw,qak,List.take_succ_cons,List.take_zero,List.drop_succ_cons,List.drop_zero,List.drop_nil,List.take_nil,List.cons_append,List.nil_append,List.append_nil,List.length_cons,List.length_nil];first|done|rfl) ?_;simp only [qao])|(refine WP.ret ?_;(try simp only [qa1,qaz]);refine ret1 rfl (by simp only [go_sem,simprocAttr,qab];first|done|rfl) (by simp only [go_sem,qab]) ?_)|(refine RS.litS (by simp only [go_sem];first|done|rfl) (by decide) (by decide) (by simp only [go_sem];first|done|rfl) (by simp only [go_sem];first|done|rfl) (by simp only [go_sem];first|done|rfl) (by simp only [go_sem];first|done|rfl) (by decide) (by simp only [go_sem,simprocAttr,List.replicate_succ,List.replicate_zero,qab,plc40,vz0,cz0,tz0,ow0,qak,List.take_succ_cons,List.take_zero,List.drop_succ_cons,List.drop_zero,List.drop_nil,List.take_nil,List.cons_append,List.nil_append,List.append_nil,List.length_cons,List.length_nil];first|done|rfl) ?_;refine RS.run2 (by simp only [go_sem,simprocAttr,qab,plc40,vz0,cz0,tz0,ow0,qak,List.take_succ_cons,List.take_zero,List.drop_succ_cons,List.drop_zero,List.drop_nil,List.take_nil,List.cons_append,List.nil_append,List.append_nil,List.length_cons,List.length_nil];first|done|rfl) ?_;simp only [qao]))
 exact qaf awk_right
end Go.Proofs.YtfbopaaambkfkaaGreatDoor
