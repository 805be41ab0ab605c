/- The document's variables, places, types of names, on plain data. Conditions: at most 2^20 of anything. -/
import Derived.Test.YtibdalkdgjghoaaGreatDoorMg21
import Derived.Test.YtibdalkdgjghoaaGreatDoorMg31
import Derived.Test.YtibdalkdgjghoaaGreatDoorMg32
import Derived.Test.YtibdalkdgjghoaaGreatDoorMg15
import Derived.Test.YtibdalkdgjghoaaGreatDoorMg34
set_option linter.unusedVariables false
set_option maxRecDepth 100000
set_option maxHeartbeats 8000000
set_option linter.unusedSimpArgs false
namespace Go.Proofs.YtibdalkdgjghoaaGreatDoor
open Go.RowKit
theorem prUnique (t:Ty):DPure Tryz.prog 56 [.r (Ty.at t)] (.a (.v (.bool (uniqB t)))):=by
 refine DPure.go Tryz.func56 rfl Tryz.ntmps56 rfl rfl rfl (fun C hro=>?_)
 have fx:=trivial
 repeat' (first|refine stp [0,1,2] ?_|(refine RS.pk ?_;refine rnx ?_)|(refine RS.gF ?_;refine rnx ?_)|(refine RS.xC ?_;refine rnx ?_)|fail)
 rfl
theorem pr12Vars (m:Me) (ha:m.params.length≤1048576) (hb:m.locals.length≤1048576):DPure Tryz.prog 102 [.r (Me.at m)] (.a (.sl ((m.params++m.locals).map Vr.at))):=by
 have hma:List.map Vr.at m.params++List.map Vr.at m.locals=(m.params++m.locals).map Vr.at:=List.map_append.symm
 refine DPure.go Tryz.func102 rfl Tryz.ntmps102 rfl rfl rfl (fun C hro=>?_)
 have fx:=trivial
 repeat' (first|(refine RWL.fin ?_;try simp only [thenQ_n,blockQ_n])|refine stp [0,1,2] ?_|(refine RS.aO ?_;refine rnx ?_)|(refine RS.aN ?_;refine rnx ?_)|(refine RS.l0 ?_;refine rnx ?_)|(refine RS.aE ?_;refine rnx ?_)|(refine RS.aK ?_;refine rnx ?_)|refine RWL.fr ?_|refine RWL.wt ?_|refine RWL.l0 ?_|refine RWL.aO ?_|refine RWL.aN ?_|(refine' WP.dl (id:=1) [0,0,2,7,0,16,63,127] [0,1,2] [0,3,6] [(0,_),(3,_),(6,_)] ?_)|refine RWL.re ?_ ?_|refine RdO.oz|refine RdO.oa ?_|refine RdO.oe ?_|refine RdO.on|fail)
 rw [hma]
theorem varI_app (s:List UInt8) (m:Me):varI (m.params++m.locals) s=placeI m s:=by
 have key:∀(a b:List Vr) (k:Nat),ixOf (fun v:Vr=>v.name==s) (a++b) k=if ixOf (fun v:Vr=>v.name==s) a k≥0 then ixOf (fun v:Vr=>v.name==s) a k else ixOf (fun v:Vr=>v.name==s) b (k+a.length):=by
  intro a b
  induction a with
  | nil=>intro k;rw [List.nil_append,ixOf,if_neg (by decide)];rfl
  | cons x a ih =>
   intro k
   rw [List.cons_append,ixOf,ixOf]
   split
   ·rw [if_pos (by omega)]
   ·rw [ih (k+1),List.length_cons,show k+1+a.length=k+(a.length+1) by omega]
 have sh:∀(b:List Vr) (k d:Nat),ixOf (fun v:Vr=>v.name==s) b (k+d)=if ixOf (fun v:Vr=>v.name==s) b k<0 then -1 else ixOf (fun v:Vr=>v.name==s) b k+d:=by
  intro b
  induction b with
  | nil=>intro k d;rw [ixOf,ixOf,if_pos (by decide)]
  | cons x b ih =>
   intro k d
   rw [ixOf,ixOf]
   split
   ·rw [if_neg (by omega)];omega
   ·rw [show k+d+1=k+1+d by omega];exact ih (k+1) d
 unfold placeI varI
 rw [key]
 split
 ·rfl
 ·rw [sh m.locals 0 m.params.length]
  split
  ·rfl
  ·omega
theorem pr18Place (m:Me) (s:List UInt8) (ha:m.params.length≤1048576) (hb:m.locals.length≤1048576):DPure Tryz.prog 133 [.r (Me.at m),.a (.v (.string (bs s)))] (.a (.v (.int .i64 (placeI m s)))):=by
 have hv:=pr12Vars m ha hb
 have hlen:(m.params++m.locals).length≤2097152:=by rw [List.length_append];omega
 rw [←varI_app]
 generalize m.params++m.locals=l at hv hlen ⊢
 refine DPure.go Tryz.func133 rfl Tryz.ntmps133 rfl rfl rfl (fun C hro=>?_)
 have fx:=trivial
 repeat' (first|refine stp [0,1,2,4,5,6,12,21] ?_|(refine RS.lC ?_;refine rnx ?_)|(refine RS.xC ?_;refine rnx ?_)|(refine stc (r1:=by exact hv) (r2:=?_);refine rnx ?_)|refine WP.cn (fun hc=>?_) (fun hc=>?_)|fail)
 refine WP.loopX (α:={ k:Nat // k≤l.length∧(l.take k).any (fun v:Vr=>v.name==s)=false }) (fun y=>[(1,.a (.v (.string (bs s)))),(5,.a (.sl (l.map Vr.at))),(6,.a (.v (.int .i64 (y.1:Nat))))]) (fun _=>[.cell (Me.at m)]) (fun y=>l.length-y.1) ⟨0,by omega,rfl⟩ (by simp only [Agree,go_sem,simprocAttr];first|done|rfl) rfl ?_
 rintro⟨k,hk,hinv⟩
 dsimp only
 by_cases hlt:k<l.length
 ·have hlt2:decide ((k:Int)<((l.length:Nat):Int))=true:=decide_eq_true (by omega)
  obtain⟨z,hz⟩:∃z,l[k]? = some z:=⟨_,List.getElem?_eq_getElem hlt⟩
  have hzm:z∈l:=List.mem_of_getElem? hz
  have hzt:=take_snocA hz
  have hix:∀q2,ixD (some 13) q2 (.a (.sl (l.map Vr.at))) (.a (.v (.int .i64 (k:Int))))=some (.a (.ref (Vr.at z) 0)):=fun q2=>ixD_at rfl (by rw [List.getElem?_map,hz];rfl) (by simp only [go_sem])
  have hwu:=wrap64n (k:=k) (by omega)
  replace fx:=And.intro hlt2 (And.intro hix (And.intro hwu trivial))
  repeat' (first|refine stp [0,1,2,4,5,6,12,21] ?_|(refine RS.lC ?_;refine rnx ?_)|(refine RS.xC ?_;refine rnx ?_)|refine WP.cn (fun hc=>?_) (fun hc=>?_)|fail)
  ·exact int_eq (by rw [varI,ixOf_at _ l k 0 z hz hinv hc,Nat.zero_add])
  ·refine⟨⟨k+1,by omega,by rw [hzt,List.any_append,hinv];simpa using hc⟩,[],by dsimp only;omega,by simp only [Agree,go_sem,simprocAttr],rfl,by simp only [nrE,nrD,List.all_cons,List.all_nil,go_sem,simprocAttr],by simp only [go_sem,simprocAttr,Me.nr]⟩
 obtain rfl:k=l.length:=by omega
 rw [List.take_length] at hinv
 have hlt2:decide ((l.length:Int)<(l.length:Int))=false:=decide_eq_false (by omega)
 replace fx:=And.intro hlt2 trivial
 repeat' (first|refine stp [0,1,2,4,5,6,12,21] ?_|(refine RS.lC ?_;refine rnx ?_)|(refine RS.xC ?_;refine rnx ?_)|refine WP.cn (fun hc=>?_) (fun hc=>?_)|fail)
 exact int_eq (by rw [varI,ixOf_none _ l 0 hinv])
theorem pr15This (c:Cs) (hc:c.params.length≤1048576):DPure Tryz.prog 217 [.r (Cs.at c)] (.a (.sl ((thisL c).map owAt))):=by
 have z1:=zrOw
 unfold thisL
 generalize hn:c.params.length=n at hc ⊢
 refine DPure.go Tryz.func217 rfl Tryz.ntmps217 rfl rfl rfl (fun C hro=>?_)
 have fx:=trivial
 replace fx:=And.intro z1 trivial
 repeat' (first|refine stp [0,1,2,3,4,11] ?_|(refine RS.aO ?_;refine rnx ?_)|(refine RS.aN ?_;refine rnx ?_)|(refine RS.li ?_;refine rnx ?_)|(refine RS.aE ?_;refine rnx ?_)|(refine RS.aK ?_;refine rnx ?_)|(refine RS.lC ?_;refine rnx ?_)|(refine RS.bC ?_;refine rnx ?_)|refine WP.cn (fun hc=>?_) (fun hc=>?_)|fail)
 refine WP.loopX (α:={ k:Nat // k≤n }) (fun y=>[(1,.a (.ptr 0 0)),(3,.a (.own 1 y.1)),(4,.a (.v (.int .i64 (y.1:Nat))))]) (fun y=>[.cell (Cs.at c),.arr y.1 2 ((((2,0)::(List.range y.1).map fun i=>(3,((i+1:Nat):Int))):List (Int×Int)).map owAt)]) (fun y=>n-y.1) ⟨0,by omega⟩ (by simp only [Agree,go_sem,simprocAttr];first|done|rfl) rfl ?_
 rintro⟨k,hk⟩
 dsimp only
 have hkk:(k==k)=true:=beq_self_eq_true k
 by_cases hlt:k<n
 ·have hlt2:decide ((k:Int)<(n:Int))=true:=decide_eq_true (by omega)
  have hwu:=wrap64n (k:=k) (by omega)
  have hrl:(((((2,0)::(List.range k).map fun i=>(3,((i+1:Nat):Int))):List (Int×Int)).map owAt)).length=k+1:=by simp
  have hrr:((((2,0)::(List.range k).map fun i=>(3,((i+1:Nat):Int))):List (Int×Int)).map owAt)++[[.v (.int .i64 3),.v (.int .i64 ((k+1:Nat):Int))]]=((((2,0)::(List.range (k+1)).map fun i=>(3,((i+1:Nat):Int))):List (Int×Int)).map owAt):=by rw [List.range_succ];simp [owAt]
  generalize ((((2,0)::(List.range k).map fun i=>(3,((i+1:Nat):Int))):List (Int×Int)).map owAt)=R at hrl hrr ⊢
  replace fx:=And.intro hlt2 (And.intro hwu (And.intro hn (And.intro z1 (And.intro hrl (And.intro hrr (And.intro hkk trivial))))))
  repeat' (first|refine stp [0,1,2,3,4,11] ?_|(refine RS.aO ?_;refine rnx ?_)|(refine RS.aN ?_;refine rnx ?_)|(refine RS.ls ?_;refine rnx ?_)|(refine RS.aE ?_;refine rnx ?_)|(refine RS.aK ?_;refine rnx ?_)|(refine RS.lC ?_;refine rnx ?_)|(refine RS.bC ?_;refine rnx ?_)|refine WP.cn (fun hc=>?_) (fun hc=>?_)|fail)
  refine⟨⟨k+1,by omega⟩,[],by dsimp only;omega,by simp only [Agree,go_sem,simprocAttr],by first|rfl|(simp only [hrr,go_sem,simprocAttr];done)|(rw [←hrr];rfl),by simp only [nrE,nrD,List.all_cons,List.all_nil,go_sem,simprocAttr],by simp only [nrE,nrD,List.all_cons,List.all_nil,go_sem,simprocAttr,Cs.nr]⟩
 ·obtain rfl:k=n:=by omega
  have hlt2:decide ((k:Int)<(k:Int))=false:=decide_eq_false (by omega)
  replace fx:=And.intro hlt2 (And.intro hn (And.intro hkk trivial))
  repeat' (first|refine stp [0,1,2,3,4,11] ?_|(refine RS.aO ?_;refine rnx ?_)|(refine RS.aN ?_;refine rnx ?_)|(refine RS.ls ?_;refine rnx ?_)|(refine RS.aE ?_;refine rnx ?_)|(refine RS.aK ?_;refine rnx ?_)|(refine RS.lC ?_;refine rnx ?_)|(refine RS.bC ?_;refine rnx ?_)|refine WP.cn (fun hc=>?_) (fun hc=>?_)|fail)
  rfl
end Go.Proofs.YtibdalkdgjghoaaGreatDoor
namespace Go.Proofs.YtibdalkdgjghoaaGreatDoor
open Go.RowKit
theorem thisC (c:Cs):(c.params.length=0∧thisL c=[(2,0)]∧thisT c=⟨2,c.name,0,(2,0),(0,0),(0,0),(0,0)⟩)∨(c.params.length=1∧thisL c=[(2,0),(3,1)]∧thisT c=⟨2,c.name,1,(2,0),(3,1),(0,0),(0,0)⟩)∨(c.params.length=2∧thisL c=[(2,0),(3,1),(3,2)]∧thisT c=⟨2,c.name,2,(2,0),(3,1),(3,2),(0,0)⟩)∨(3≤c.params.length∧(∃r,thisL c=(2,0)::(3,1)::(3,2)::(3,3)::r)∧thisT c=⟨2,c.name,3,(2,0),(3,1),(3,2),(3,3)⟩):=by
 unfold thisT ownAt thisL
 generalize c.params.length=n
 match n with
 | 0=>exact Or.inl ⟨rfl,rfl,rfl⟩
 | 1=>exact Or.inr (Or.inl ⟨rfl,rfl,rfl⟩)
 | 2=>exact Or.inr (Or.inr (Or.inl ⟨rfl,rfl,rfl⟩))
 | k+3 =>
  refine Or.inr (Or.inr (Or.inr ⟨by omega,⟨(List.range k).map fun i=>(3,((i+3+1:Nat):Int)),?_⟩,?_⟩))
  ·simp [List.range_succ_eq_map,Function.comp_def];intros;omega
  ·rw [show min (k+3+1) 4=4 by omega];simp [List.range_succ_eq_map]
theorem owIx (l:List (Int×Int)) (i:Nat) (q:Int×Int) (h:l[i]? = some q) (z:Int) (hz:z=(i:Int)):∀q2,ixD (some 2) q2 (.a (.sl (l.map owAt))) (.a (.v (.int .i64 z)))=some (.a (.ref (owAt q) 0)):=fun q2=>by subst hz;exact ixD_at rfl (by rw [List.getElem?_map,h];rfl) (by simp only [go_sem])
theorem pr18This (c:Cs) (hcp:c.params.length≤1048576):DPure Tryz.prog 164 [.r (Cs.at c)] (.r (Ty.at (thisT c))):=by
 have hq:=pr15This c hcp
 have z1:=zrTy
 have w0:owAt (2,0)=[.v (.int .i64 2),.v (.int .i64 0)]:=rfl
 have w1:owAt (3,1)=[.v (.int .i64 3),.v (.int .i64 1)]:=rfl
 have w2:owAt (3,2)=[.v (.int .i64 3),.v (.int .i64 2)]:=rfl
 have w3:owAt (3,3)=[.v (.int .i64 3),.v (.int .i64 3)]:=rfl
 rcases thisC c with ⟨hn,hL,hT⟩|⟨hn,hL,hT⟩|⟨hn,hL,hT⟩|⟨hn,⟨r,hL⟩,hT⟩
 ·rw [hT]
  have hm:min (3:Int) (c.params.length:Int)=0:=by omega
  have x0:=owIx (thisL c) 0 (2,0) (by rw [hL];rfl) 0 rfl
  generalize thisL c=L at hq x0
  refine DPure.go Tryz.func164 rfl Tryz.ntmps164 rfl rfl rfl (fun C hro=>?_)
  have fx:=trivial
  replace fx:=And.intro hm (And.intro x0 (And.intro w0 (And.intro z1 trivial)))
  repeat' (first|refine stp [0,1,2,3,4,5,18] ?_|(refine RS.sE ?_;refine rnx ?_)|(refine RS.lC ?_;refine rnx ?_)|(refine RS.xC ?_;refine rnx ?_)|(refine stc (r1:=by exact hq) (r2:=?_);refine rnx ?_)|refine WP.cn (fun hc=>?_) (fun hc=>?_)|refine WP.loop_in ?_|refine WPIn.unroll ?_|fail)
  all_goals first|rfl|trace_state
 ·rw [hT]
  have hm:min (3:Int) (c.params.length:Int)=1:=by omega
  have x0:=owIx (thisL c) 0 (2,0) (by rw [hL];rfl) 0 rfl
  have x1:=owIx (thisL c) 1 (3,1) (by rw [hL];rfl) 1 rfl
  generalize thisL c=L at hq x0 x1
  refine DPure.go Tryz.func164 rfl Tryz.ntmps164 rfl rfl rfl (fun C hro=>?_)
  have fx:=trivial
  replace fx:=And.intro hm (And.intro x0 (And.intro x1 (And.intro w0 (And.intro w1 (And.intro z1 trivial)))))
  repeat' (first|refine stp [0,1,2,3,4,5,18] ?_|(refine RS.sE ?_;refine rnx ?_)|(refine RS.lC ?_;refine rnx ?_)|(refine RS.xC ?_;refine rnx ?_)|(refine stc (r1:=by exact hq) (r2:=?_);refine rnx ?_)|refine WP.cn (fun hc=>?_) (fun hc=>?_)|refine WP.loop_in ?_|refine WPIn.unroll ?_|fail)
  all_goals first|rfl|trace_state
 ·rw [hT]
  have hm:min (3:Int) (c.params.length:Int)=2:=by omega
  have x0:=owIx (thisL c) 0 (2,0) (by rw [hL];rfl) 0 rfl
  have x1:=owIx (thisL c) 1 (3,1) (by rw [hL];rfl) 1 rfl
  have x2:=owIx (thisL c) 2 (3,2) (by rw [hL];rfl) 2 rfl
  generalize thisL c=L at hq x0 x1 x2
  refine DPure.go Tryz.func164 rfl Tryz.ntmps164 rfl rfl rfl (fun C hro=>?_)
  have fx:=trivial
  replace fx:=And.intro hm (And.intro x0 (And.intro x1 (And.intro x2 (And.intro w0 (And.intro w1 (And.intro w2 (And.intro z1 trivial)))))))
  repeat' (first|refine stp [0,1,2,3,4,5,18] ?_|(refine RS.sE ?_;refine rnx ?_)|(refine RS.lC ?_;refine rnx ?_)|(refine RS.xC ?_;refine rnx ?_)|(refine stc (r1:=by exact hq) (r2:=?_);refine rnx ?_)|refine WP.cn (fun hc=>?_) (fun hc=>?_)|refine WP.loop_in ?_|refine WPIn.unroll ?_|fail)
  all_goals first|rfl|trace_state
 ·rw [hT]
  have hm:min (3:Int) (c.params.length:Int)=3:=by omega
  have x0:=owIx (thisL c) 0 (2,0) (by rw [hL];rfl) 0 rfl
  have x1:=owIx (thisL c) 1 (3,1) (by rw [hL];rfl) 1 rfl
  have x2:=owIx (thisL c) 2 (3,2) (by rw [hL];rfl) 2 rfl
  have x3:=owIx (thisL c) 3 (3,3) (by rw [hL];rfl) 3 rfl
  generalize thisL c=L at hq x0 x1 x2 x3
  refine DPure.go Tryz.func164 rfl Tryz.ntmps164 rfl rfl rfl (fun C hro=>?_)
  have fx:=trivial
  replace fx:=And.intro hm (And.intro x0 (And.intro x1 (And.intro x2 (And.intro x3 (And.intro w0 (And.intro w1 (And.intro w2 (And.intro w3 (And.intro z1 trivial)))))))))
  repeat' (first|refine stp [0,1,2,3,4,5,18] ?_|(refine RS.sE ?_;refine rnx ?_)|(refine RS.lC ?_;refine rnx ?_)|(refine RS.xC ?_;refine rnx ?_)|(refine stc (r1:=by exact hq) (r2:=?_);refine rnx ?_)|refine WP.cn (fun hc=>?_) (fun hc=>?_)|refine WP.loop_in ?_|refine WPIn.unroll ?_|fail)
  all_goals first|rfl|trace_state
theorem pr18Type (c:Cs) (m:Me) (s:List UInt8) (hc:c.params.length≤1048576) (ha:m.params.length≤1048576) (hb:m.locals.length≤1048576):DPure Tryz.prog 107 [.r (Cs.at c),.r (Me.at m),.a (.v (.string (bs s)))] (.t [.r (Ty.at (typeT c m s).1),.a (.v (.bool (typeT c m s).2))]):=by
 have z1:=zrTy
 cases hT:(s==thisS) with
 | true =>
  have hts:(s==[116,104,105,115])=true:=hT
  rw [show typeT c m s=(thisT c,true) by unfold typeT;rw [if_pos hT]]
  have hq:=pr18This c hc
  generalize thisT c=T at hq ⊢
  dsimp only
  refine DPure.go Tryz.func107 rfl Tryz.ntmps107 rfl rfl rfl (fun C hro=>?_)
  have fx:=trivial
  replace fx:=And.intro hts trivial
  repeat' (first|refine stp [0,1,2,3,4,6,7,8,10,17] ?_|(refine RS.sE ?_;refine rnx ?_)|(refine RS.xC ?_;refine rnx ?_)|(refine stc (r1:=by exact hq) (r2:=?_);refine rnx ?_)|refine WP.cn (fun hc=>?_) (fun hc=>?_)|fail)
  all_goals rfl
 | false =>
  have hts:(s==[116,104,105,115])=false:=hT
  rcases placeI_get m s with hp|⟨j,z,hz,_,hp⟩
  ·have hd:decide (placeI m s<0)=true:=decide_eq_true (by omega)
   rw [show typeT c m s=(Ty.zero,false) by unfold typeT;rw [if_neg (by rw [hT];exact Bool.false_ne_true),if_pos (by omega)]]
   refine DPure.go Tryz.func107 rfl Tryz.ntmps107 rfl rfl rfl (fun C hro=>?_)
   have fx:=trivial
   replace fx:=And.intro hts (And.intro hd trivial)
   repeat' (first|refine stp [0,1,2,3,4,6,7,8,10,17] ?_|(refine RS.sE ?_;refine rnx ?_)|(refine RS.xC ?_;refine rnx ?_)|(refine stc (r1:=by exact pr18Place m s ha hb) (r2:=?_);refine rnx ?_)|refine WP.cn (fun hc=>?_) (fun hc=>?_)|fail)
   all_goals rfl
  ·have hd:decide ((j:Int)<0)=false:=decide_eq_false (by omega)
   have hjx:∀q2,ixD (some 13) q2 (.a (.sl ((m.params++m.locals).map Vr.at))) (.a (.v (.int .i64 (j:Int))))=some (.a (.ref (Vr.at z) 0)):=fun q2=>ixD_at rfl (by rw [List.getElem?_map,hz];rfl) (by simp only [go_sem])
   have hma:List.map Vr.at m.params++List.map Vr.at m.locals=(m.params++m.locals).map Vr.at:=List.map_append.symm
   rw [show typeT c m s=(z.ty,true) by unfold typeT;rw [if_neg (by rw [hT];exact Bool.false_ne_true),if_neg (by omega),hp,Int.toNat_natCast,hz];rfl]
   refine DPure.go Tryz.func107 rfl Tryz.ntmps107 rfl rfl rfl (fun C hro=>?_)
   have fx:=trivial
   replace fx:=And.intro hts (And.intro hp (And.intro hd (And.intro hjx trivial)))
   repeat' (first|refine stp [0,1,2,3,4,6,7,8,10,17] ?_|(refine RS.sE ?_;refine rnx ?_)|(refine RS.xC ?_;refine rnx ?_)|(refine stc (r1:=by first|exact pr18Place m s ha hb|exact pr12Vars m ha hb) (r2:=?_);refine rnx ?_)|refine WP.cn (fun hc=>?_) (fun hc=>?_)|fail)
   all_goals rfl
theorem pr19number:DPure Tryz.prog 171 [] (.r (Ty.at (tyK 1))):=by
 have z1:=zrTy
 refine DPure.go Tryz.func171 rfl Tryz.ntmps171 rfl rfl rfl (fun C hro=>?_)
 have fx:=trivial
 replace fx:=And.intro z1 trivial
 repeat' (first|refine stp [0] ?_|(refine RS.sE ?_;refine rnx ?_)|fail)
 rfl
theorem pr19Fits (p:List Cs) (f t:Ty) (hn:p.length≤1048576):DPure Tryz.prog 58 [.a (.sl (p.map Cs.at)),.r (Ty.at f),.r (Ty.at t)] (.a (.v (.int .i64 (fitsI p f t)))):=by
 refine DPure.go Tryz.func58 rfl Tryz.ntmps58 rfl rfl rfl (fun C hro=>?_)
 have fx:=trivial
 repeat' (first|refine stp [0,1,2,4,5,6,7,8,9,39,56,63,64] ?_|(refine RS.pk ?_;refine rnx ?_)|(refine RS.gF ?_;refine rnx ?_)|(refine stc (r1:=by first|exact prUnique f|exact prUnique t|exact pr14Below p f.cls t.cls hn) (r2:=?_);refine rnx ?_)|refine WP.cn (fun hc=>?_) (fun hc=>?_)|((first|refine WP.dw (id:=1) 6 [0,1,2,4,5,6,7,8,9,39,56,63,64] ?_);simp only [RQr_mk,List.drop_succ_cons,List.drop_zero,List.drop_nil])|fail)
 all_goals (refine int_eq ?_;unfold fitsI;generalize uniqB f=a at *;generalize uniqB t=b at *;generalize belowB p f.cls t.cls=d at *;by_cases q1:f.kind=1<;>by_cases q2:f.kind=2<;>by_cases q3:f.kind=3<;>by_cases q4:t.kind=1<;>by_cases q5:t.kind=2<;>first|(exfalso;omega)|(cases a<;>cases b<;>cases d<;>simp_all))
theorem pr19Gives (p:List Cs) (f t:Ty) (hn:p.length≤1048576):DPure Tryz.prog 57 [.a (.sl (p.map Cs.at)),.r (Ty.at f),.r (Ty.at t)] (.a (.v (.int .i64 (givesI p f t)))):=by
 refine DPure.go Tryz.func57 rfl Tryz.ntmps57 rfl rfl rfl (fun C hro=>?_)
 have fx:=trivial
 repeat' (first|refine stp [0,1,2,4,5,6,14,17,24] ?_|(refine RS.pk ?_;refine rnx ?_)|(refine RS.gF ?_;refine rnx ?_)|(refine stc (r1:=by first|exact prUnique f|exact pr14Below p f.cls t.cls hn) (r2:=?_);refine rnx ?_)|refine WP.cn (fun hc=>?_) (fun hc=>?_)|fail)
 all_goals (refine int_eq ?_;unfold givesI;generalize uniqB f=a at *;generalize belowB p f.cls t.cls=d at *;by_cases q2:f.kind=2<;>by_cases q5:t.kind=2<;>cases a<;>cases d<;>simp_all)
end Go.Proofs.YtibdalkdgjghoaaGreatDoor
namespace Go.Proofs.YtibdalkdgjghoaaGreatDoor
open Go.RowKit
theorem notF {b:Bool} (h:(!b)=false):b=true:=by cases b<;>simp_all
theorem notT {b:Bool} (h:(!b)=true):b=false:=by cases b<;>simp_all
theorem pr19of (c:Cs) (m:Me) (hcp:c.params.length≤1048576) (ha:m.params.length≤1048576) (hb:m.locals.length≤1048576):∀(n:Nat) (e:Ex),e.sz≤n→e.sz≤1048576→DPure Tryz.prog 114 [.r (Cs.at c),.r (Me.at m),.r (Ex.at e)] (.t [.r (Ty.at (shT c m e).1),.a (.v (.int .i64 (shT c m e).2))])
 | 0,e,h,_=>by have:=e.sz_pos;omega
 | n+1,e,h,hz=>by
  have IH:∀k∈e.kids,_:=fun k hk=>pr19of c m hcp ha hb n k (by have:=Ex.kid_lt hk;omega) (by have:=Ex.kid_lt hk;omega)
  have hlen:e.kids.length≤1048576:=by have:=Ex.szs_len e.kids;have:=e.sz_eq;omega
  rw [shT_eq]
  refine DPure.go Tryz.func114 rfl Tryz.ntmps114 rfl rfl rfl (fun C hro=>?_)
  have fx:=trivial
  replace fx:=And.intro tyZ trivial
  repeat' (first|(refine RWL.fin ?_;try simp only [thenQ_n,blockQ_n])|refine stp [0,1,2,3,4,5,6,7,8,9,10,11,12,13,14,17,27,32,37,43,58,66,72,82,94] ?_|(refine RS.sE ?_;refine rnx ?_)|(refine RS.pk ?_;refine rnx ?_)|(refine RS.gF ?_;refine rnx ?_)|(refine RS.lC ?_;refine rnx ?_)|(refine RS.xC ?_;refine rnx ?_)|refine RWL.fr ?_|refine RWL.wt ?_|(refine stc (r1:=by first|exact pr18Type c m e.name hcp ha hb|exact pr18This c hcp) (r2:=?_);refine rnx ?_)|(refine' WP.dl (id:=14) [0,0,0,4,0,28,60,127,255,511,511,0,3071,8191] [0,1,2,3,4,5,6,7,8,9,10,11,12,13,14,17,27,32,37,43,58,66,72,82,94] [11,12] [(11,_),(12,_)] ?_)|refine RWL.re ?_ ?_|refine RdO.oz|refine RdO.oa ?_|refine RdO.oe ?_|refine RdO.on|refine WP.cn (fun hc=>?_) (fun hc=>?_)|fail)
  ·rw [if_pos (by assumption),if_neg (by simpa using hc)]
  ·rw [if_pos (by assumption),if_pos (by simpa using hc)]
  ·rename_i h2
   rw [if_neg (by rw [h2];exact Bool.false_ne_true),if_pos hc]
  ·rename_i h2 h3
   rw [if_neg (by rw [h2];exact Bool.false_ne_true),if_neg (by rw [h3];exact Bool.false_ne_true),if_pos hc];rfl
  rename_i h2 h3
  rw [if_neg (by rw [h2];exact Bool.false_ne_true),if_neg (by rw [h3];exact Bool.false_ne_true),if_neg (by rw [hc];exact Bool.false_ne_true)]
  clear h2 h3 hc
  refine WP.loopX (α:={ y:Nat×Bool // y.1≤e.kids.length∧shsT c m e.kind false e.kids=shsT c m e.kind y.2 (e.kids.drop y.1) }) (fun y=>[(3,.a (.ptr 0 0)),(4,.a (.ptr 1 0)),(5,.a (.ptr 2 0)),(6,.a (.ptr 3 0)),(10,.a (.v (.bool (y.1.2&&e.kind==14)))),(11,.a (.v (.int .i64 (y.1.1:Nat))))]) (fun y=>[.cell (Cs.at c),.cell (Me.at m),.cell (Ex.at e),.cell (Ty.at Ty.zero)]) (fun y=>e.kids.length-y.1.1) ⟨(0,false),by omega,rfl⟩ (by simp only [Agree,go_sem,simprocAttr];first|done|rfl) rfl ?_
  rintro⟨⟨k,u⟩,hk,hinv⟩
  dsimp only at hk hinv ⊢
  by_cases hlt:k<e.kids.length
  ·have hlt2:decide ((k:Int)<((e.kids.length:Nat):Int))=true:=decide_eq_true (by omega)
   obtain⟨z,hz⟩:∃z,e.kids[k]? = some z:=⟨_,List.getElem?_eq_getElem hlt⟩
   have hzm:z∈e.kids:=List.mem_of_getElem? hz
   have hzt:=take_snocA hz
   have hix:∀q2,ixD (some 4) q2 (.a (.sl (e.kids.map Ex.at))) (.a (.v (.int .i64 (k:Int))))=some (.a (.ref (Ex.at z) 0)):=fun q2=>ixD_at rfl (by rw [List.getElem?_map,hz];rfl) (by simp only [go_sem])
   have hwu:=wrap64n (k:=k) (by omega)
   have hdr:e.kids.drop k=z::e.kids.drop (k+1):=by rw [List.drop_eq_getElem_cons hlt];congr 1;exact (List.getElem?_eq_some_iff.1 hz).2
   rw [hdr,shsT] at hinv
   have hIz:=IH z hzm
   generalize shT c m z=R at hIz hinv
   clear IH
   have hA:(R.2 != 0)=true→shsT c m e.kind false e.kids=(Ty.zero,R.2):=fun h=>by rw [hinv,if_neg (by simp at h;simp [h]),if_pos h]
   have hB:(R.2 != 0)=false→wantB e.kind R.1=false→shsT c m e.kind false e.kids=(Ty.zero,14):=fun h h'=>by rw [hinv,if_pos (by simp at h;simp [h,h'])]
   have hC:(R.2 != 0)=false→wantB e.kind R.1=true→shsT c m e.kind false e.kids=shsT c m e.kind (u||uniqB R.1) (e.kids.drop (k+1)):=fun h h'=>by rw [hinv,if_neg (by simp [h']),if_neg (by rw [h];exact Bool.false_ne_true)]
   clear hinv
   by_cases e14:e.kind=14
   ·have q14:(e.kind==14)=true:=by simp [e14]
    have q13:(e.kind==13)=false:=by simp [e14]
    have hWd:wantB e.kind R.1=(R.1.kind==2||R.1.kind==3):=by unfold wantB;rw [q13,q14];rfl
    cases u with
    | true =>
     replace fx:=And.intro hlt2 (And.intro hix (And.intro hwu (And.intro tyZ (And.intro q13 (And.intro q14 trivial)))))
     repeat' (first|(refine RWL.fin ?_;try simp only [thenQ_n,blockQ_n])|refine stp [0,1,2,3,4,5,6,7,8,9,10,11,12,13,14,17,27,32,37,43,58,66,72,82,94] ?_|(refine RS.sE ?_;refine rnx ?_)|(refine RS.pk ?_;refine rnx ?_)|(refine RS.gF ?_;refine rnx ?_)|(refine RS.lC ?_;refine rnx ?_)|(refine RS.xC ?_;refine rnx ?_)|refine RWL.fr ?_|refine RWL.wt ?_|(refine stc (r1:=by first|exact prUnique R.1|exact hIz) (r2:=?_);refine rnx ?_)|(refine' WP.dl (id:=14) [0,0,0,4,0,28,60,127,255,511,511,0,3071,8191] [0,1,2,3,4,5,6,7,8,9,10,11,12,13,14,17,27,32,37,43,58,66,72,82,94] [11,12] [(11,_),(12,_)] ?_)|refine RWL.re ?_ ?_|refine RdO.oz|refine RdO.oa ?_|refine RdO.oe ?_|refine RdO.on|refine WP.cn (fun hc=>?_) (fun hc=>?_)|fail)
     ·rw [hA (by assumption)]
     ·rw [hB (by assumption) (by rw [hWd];exact notT hc)]
     ·refine⟨⟨(k+1,true||uniqB R.1),by dsimp only;omega,hC (by assumption) (by rw [hWd];exact notF hc)⟩,_,by dsimp only;omega,by simp only [Agree,go_sem,simprocAttr,q14,Bool.true_or,Bool.false_or,Bool.and_true,Bool.and_false],rfl,by simp only [nrE,nrD,List.all_cons,List.all_nil,go_sem,simprocAttr],by simp only [go_sem,simprocAttr]⟩
    | false =>
     replace fx:=And.intro hlt2 (And.intro hix (And.intro hwu (And.intro tyZ (And.intro q13 (And.intro q14 trivial)))))
     repeat' (first|(refine RWL.fin ?_;try simp only [thenQ_n,blockQ_n])|refine stp [0,1,2,3,4,5,6,7,8,9,10,11,12,13,14,17,27,32,37,43,58,66,72,82,94] ?_|(refine RS.sE ?_;refine rnx ?_)|(refine RS.pk ?_;refine rnx ?_)|(refine RS.gF ?_;refine rnx ?_)|(refine RS.lC ?_;refine rnx ?_)|(refine RS.xC ?_;refine rnx ?_)|refine RWL.fr ?_|refine RWL.wt ?_|(refine stc (r1:=by first|exact prUnique R.1|exact hIz) (r2:=?_);refine rnx ?_)|(refine' WP.dl (id:=14) [0,0,0,4,0,28,60,127,255,511,511,0,3071,8191] [0,1,2,3,4,5,6,7,8,9,10,11,12,13,14,17,27,32,37,43,58,66,72,82,94] [11,12] [(11,_),(12,_)] ?_)|refine RWL.re ?_ ?_|refine RdO.oz|refine RdO.oa ?_|refine RdO.oe ?_|refine RdO.on|refine WP.cn (fun hc=>?_) (fun hc=>?_)|fail)
     ·rw [hA (by assumption)]
     ·rw [hB (by assumption) (by rw [hWd];exact notT hc)]
     ·refine⟨⟨(k+1,false||uniqB R.1),by dsimp only;omega,hC (by assumption) (by rw [hWd];exact notF hc)⟩,_,by dsimp only;omega,by simp only [Agree,go_sem,simprocAttr,q14,Bool.true_or,Bool.false_or,Bool.and_true,Bool.and_false],rfl,by simp only [nrE,nrD,List.all_cons,List.all_nil,go_sem,simprocAttr],by simp only [go_sem,simprocAttr]⟩
   ·have q14:(e.kind==14)=false:=by simp [e14]
    cases q13:(e.kind==13) with
    | true =>
     have hWd:wantB e.kind R.1=(R.1.kind==2):=by unfold wantB;rw [q13];rfl
     replace fx:=And.intro hlt2 (And.intro hix (And.intro hwu (And.intro tyZ (And.intro q13 (And.intro q14 trivial)))))
     repeat' (first|(refine RWL.fin ?_;try simp only [thenQ_n,blockQ_n])|refine stp [0,1,2,3,4,5,6,7,8,9,10,11,12,13,14,17,27,32,37,43,58,66,72,82,94] ?_|(refine RS.sE ?_;refine rnx ?_)|(refine RS.pk ?_;refine rnx ?_)|(refine RS.gF ?_;refine rnx ?_)|(refine RS.lC ?_;refine rnx ?_)|(refine RS.xC ?_;refine rnx ?_)|refine RWL.fr ?_|refine RWL.wt ?_|(refine stc (r1:=by first|exact prUnique R.1|exact hIz) (r2:=?_);refine rnx ?_)|(refine' WP.dl (id:=14) [0,0,0,4,0,28,60,127,255,511,511,0,3071,8191] [0,1,2,3,4,5,6,7,8,9,10,11,12,13,14,17,27,32,37,43,58,66,72,82,94] [11,12] [(11,_),(12,_)] ?_)|refine RWL.re ?_ ?_|refine RdO.oz|refine RdO.oa ?_|refine RdO.oe ?_|refine RdO.on|refine WP.cn (fun hc=>?_) (fun hc=>?_)|fail)
     ·rw [hA (by assumption)]
     ·rw [hB (by assumption) (by rw [hWd];exact notT hc)]
     ·refine⟨⟨(k+1,u||uniqB R.1),by dsimp only;omega,hC (by assumption) (by rw [hWd];exact notF hc)⟩,_,by dsimp only;omega,by simp only [Agree,go_sem,simprocAttr,q14,Bool.true_or,Bool.false_or,Bool.and_true,Bool.and_false],rfl,by simp only [nrE,nrD,List.all_cons,List.all_nil,go_sem,simprocAttr],by simp only [go_sem,simprocAttr]⟩
    | false =>
     have hWd:wantB e.kind R.1=(R.1.kind==1):=by unfold wantB;rw [q13,q14];rfl
     replace fx:=And.intro hlt2 (And.intro hix (And.intro hwu (And.intro tyZ (And.intro q13 (And.intro q14 trivial)))))
     repeat' (first|(refine RWL.fin ?_;try simp only [thenQ_n,blockQ_n])|refine stp [0,1,2,3,4,5,6,7,8,9,10,11,12,13,14,17,27,32,37,43,58,66,72,82,94] ?_|(refine RS.sE ?_;refine rnx ?_)|(refine RS.pk ?_;refine rnx ?_)|(refine RS.gF ?_;refine rnx ?_)|(refine RS.lC ?_;refine rnx ?_)|(refine RS.xC ?_;refine rnx ?_)|refine RWL.fr ?_|refine RWL.wt ?_|(refine stc (r1:=by first|exact prUnique R.1|exact hIz) (r2:=?_);refine rnx ?_)|(refine' WP.dl (id:=14) [0,0,0,4,0,28,60,127,255,511,511,0,3071,8191] [0,1,2,3,4,5,6,7,8,9,10,11,12,13,14,17,27,32,37,43,58,66,72,82,94] [11,12] [(11,_),(12,_)] ?_)|refine RWL.re ?_ ?_|refine RdO.oz|refine RdO.oa ?_|refine RdO.oe ?_|refine RdO.on|refine WP.cn (fun hc=>?_) (fun hc=>?_)|fail)
     ·rw [hA (by assumption)]
     ·rw [hB (by assumption) (by rw [hWd];exact notT hc)]
     ·refine⟨⟨(k+1,u||uniqB R.1),by dsimp only;omega,hC (by assumption) (by rw [hWd];exact notF hc)⟩,_,by dsimp only;omega,by simp only [Agree,go_sem,simprocAttr,q14,Bool.true_or,Bool.false_or,Bool.and_true,Bool.and_false],rfl,by simp only [nrE,nrD,List.all_cons,List.all_nil,go_sem,simprocAttr],by simp only [go_sem,simprocAttr]⟩
  ·obtain rfl:k=e.kids.length:=by omega
   have hlt2:decide ((e.kids.length:Int)<(e.kids.length:Int))=false:=decide_eq_false (by omega)
   rw [List.drop_length,shsT] at hinv
   clear IH
   replace fx:=And.intro hlt2 (And.intro tyZ trivial)
   repeat' (first|(refine RWL.fin ?_;try simp only [thenQ_n,blockQ_n])|refine stp [0,1,2,3,4,5,6,7,8,9,10,11,12,13,14,17,27,32,37,43,58,66,72,82,94] ?_|(refine RS.sE ?_;refine rnx ?_)|(refine RS.pk ?_;refine rnx ?_)|(refine RS.gF ?_;refine rnx ?_)|(refine RS.lC ?_;refine rnx ?_)|(refine RS.xC ?_;refine rnx ?_)|refine RWL.fr ?_|refine RWL.wt ?_|(refine stc (r1:=by exact pr19number) (r2:=?_);refine rnx ?_)|(refine' WP.dl (id:=14) [0,0,0,4,0,28,60,127,255,511,511,0,3071,8191] [0,1,2,3,4,5,6,7,8,9,10,11,12,13,14,17,27,32,37,43,58,66,72,82,94] [11,12] [(11,_),(12,_)] ?_)|refine RWL.re ?_ ?_|refine RdO.oz|refine RdO.oa ?_|refine RdO.oe ?_|refine RdO.on|refine WP.cn (fun hc=>?_) (fun hc=>?_)|fail)
   ·rw [hinv,if_pos hc]
   ·rw [hinv,if_neg (by rw [hc];exact Bool.false_ne_true)]
theorem pr19Of (c:Cs) (m:Me) (e:Ex) (hcp:c.params.length≤1048576) (ha:m.params.length≤1048576) (hb:m.locals.length≤1048576) (hz:e.sz≤1048576):DPure Tryz.prog 55 [.r (Cs.at c),.r (Me.at m),.r (Ex.at e)] (.t [.r (Ty.at (oneT c m e).1),.a (.v (.int .i64 (oneT c m e).2))]):=by
 have hq:=pr19of c m hcp ha hb _ e (Nat.le_refl _) hz
 unfold oneT
 generalize shT c m e=R at hq
 refine DPure.go Tryz.func55 rfl Tryz.ntmps55 rfl rfl rfl (fun C hro=>?_)
 have fx:=trivial
 replace fx:=And.intro tyZ trivial
 repeat' (first|refine stp [0,1,2,3,4,5,6,7,10] ?_|(refine RS.sE ?_;refine rnx ?_)|(refine stc (r1:=by first|exact pERight e hz|exact hq) (r2:=?_);refine rnx ?_)|refine WP.cn (fun hc=>?_) (fun hc=>?_)|fail)
 ·rw [if_neg (by simpa using hc)]
 ·rw [if_pos (by simpa using hc)]
end Go.Proofs.YtibdalkdgjghoaaGreatDoor
namespace Go.Proofs.YtibdalkdgjghoaaGreatDoor
open Go.RowKit
def mkF (c:Cs) (v:Vr):Fs:=⟨c.name,v⟩
def fsOf (p:List Cs) (i:Int):List Fs:=((p[i.toNat]?).map fun c=>c.fields.map (mkF c)).getD []
def allT (p:List Cs) (l:List Int) (t:Nat):List Fs:=(l.reverse.take t).flatMap (fsOf p)
def allF (p:List Cs) (s:List UInt8):List Fs:=(chainL p s).reverse.flatMap (fsOf p)
theorem allT_all (p:List Cs) (l:List Int):allT p l l.length=l.reverse.flatMap (fsOf p):=by unfold allT;rw [List.take_of_length_le (by simp)]
theorem allT_succ {p:List Cs} {l:List Int} {t j:Nat} {c:Cs} (h:l[l.length-1-t]? = some (j:Int)) (ht:t<l.length) (hj:p[j]? = some c):allT p l (t+1)=allT p l t++c.fields.map (mkF c):=by
 have hr:l.reverse[t]? = some (j:Int):=by rw [List.getElem?_reverse ht];exact h
 unfold allT
 rw [List.take_add_one,hr,List.flatMap_append]
 congr 1
 simp [fsOf,hj]
def wsum (f:Cs→Nat) (p:List Cs):List Nat→Nat
 | []=>0
 | i::m=>((p[i]?).map f).getD 0+wsum f p m
def dnL:List Nat→List Nat
 | []=>[]
 | 0::r=>dnL r
 | (k+1)::r=>k::dnL r
theorem dnL_mem:∀(m:List Nat) (k:Nat),k∈dnL m→k+1∈m
 | [],k,h=>by simp [dnL] at h
 | 0::r,k,h=>by rw [dnL] at h;exact List.mem_cons_of_mem _ (dnL_mem r k h)
 | (j+1)::r,k,h=>by
  rw [dnL,List.mem_cons] at h
  rcases h with rfl|h
  ·exact List.mem_cons_self
  ·exact List.mem_cons_of_mem _ (dnL_mem r k h)
theorem dnL_nodup:∀(m:List Nat),m.Nodup→(dnL m).Nodup
 | [],_=>by rw [dnL];exact List.nodup_nil
 | 0::r,h=>by rw [dnL];exact dnL_nodup r (List.nodup_cons.1 h).2
 | (j+1)::r,h=>by
  rw [dnL]
  exact List.nodup_cons.2 ⟨fun hm=>(List.nodup_cons.1 h).1 (dnL_mem r j hm),dnL_nodup r (List.nodup_cons.1 h).2⟩
theorem wsum_no (f:Cs→Nat) (c:Cs) (r:List Cs):∀m:List Nat,0∉m→wsum f (c::r) m=wsum f r (dnL m)
 | [],_=>rfl
 | 0::m,h=>absurd List.mem_cons_self h
 | (k+1)::m,h=>by rw [wsum,dnL,wsum,List.getElem?_cons_succ,wsum_no f c r m fun h'=>h (List.mem_cons_of_mem _ h')]
theorem wsum_yes (f:Cs→Nat) (c:Cs) (r:List Cs):∀m:List Nat,m.Nodup→wsum f (c::r) m≤f c+wsum f r (dnL m)
 | [],_=>Nat.zero_le _
 | 0::m,h=>by
  rw [wsum,dnL,wsum_no f c r m (List.nodup_cons.1 h).1];simp
 | (k+1)::m,h=>by
  have:=wsum_yes f c r m (List.nodup_cons.1 h).2
  rw [wsum,dnL,wsum,List.getElem?_cons_succ];omega
theorem wsum_le (f:Cs→Nat):∀(p:List Cs) (m:List Nat),m.Nodup→wsum f p m≤sumOf f p
 | [],m,_=>by
  have:∀m:List Nat,wsum f [] m=0:=by intro m;induction m with|nil=>rfl|cons x r ih=>rw [wsum,ih];rfl
  rw [this];exact Nat.zero_le _
 | c::r,m,h=>by
  have h1:=wsum_yes f c r m h
  have h2:=wsum_le f r (dnL m) (dnL_nodup m h)
  have h3:sumOf f (c::r)=f c+sumOf f r:=by first|rfl|simp [sumOf]
  omega
theorem allT_len {p:List Cs} {l:List Int} (h:PlN p l) (t:Nat):(allT p l t).length≤sumOf (fun c=>c.fields.length) p:=by
 have key:∀m:List Int,(m.flatMap (fsOf p)).length=wsum (fun c=>c.fields.length) p (m.map Int.toNat):=by
  intro m
  induction m with
  | nil=>rfl
  | cons x r ih =>
   rw [List.flatMap_cons,List.length_append,ih,List.map_cons,wsum]
   congr 1
   unfold fsOf
   cases p[x.toNat]?<;>simp
 unfold allT
 rw [key]
 refine wsum_le _ p _ ?_
 have hs:(List.take t l.reverse).Nodup:=List.Nodup.sublist (List.take_sublist t _) (List.pairwise_reverse.2 (List.Pairwise.imp (fun q=>Ne.symm q) h.1))
 refine List.pairwise_map.2 (List.Pairwise.imp_of_mem (fun {a b} ha hb hab=>?_) hs)
 obtain⟨k1,_,rfl,_⟩:=h.2 a (List.mem_reverse.1 (List.mem_of_mem_take ha))
 obtain⟨k2,_,rfl,_⟩:=h.2 b (List.mem_reverse.1 (List.mem_of_mem_take hb))
 intro he
 simp at he
 exact hab (by rw [he])
end Go.Proofs.YtibdalkdgjghoaaGreatDoor
namespace Go.Proofs.YtibdalkdgjghoaaGreatDoor
open Go.RowKit
def asEx:Option Cs→Nat→D
 | none,_=>.a .nl
 | some _,n=>.a (.own 1 (n-1))
def asBx:Option Cs→List Fs→List Bx
 | none,_=>[]
 | some c,R=>[.cell (Cs.at c),.arr (R.length-1) 14 (R.map Fs.at)]
def faE:Nat→D
 | 0=>.a .nl
 | k+1=>.a (.own 1 k)
def faB (c:Cs):Nat→List Bx
 | 0=>[.cell (Cs.at c)]
 | k+1=>[.cell (Cs.at c),.arr k 14 (((c.fields.take (k+1)).map (mkF c)).map Fs.at)]
theorem pr16All (p:List Cs) (s:List UInt8) (hn:p.length≤1048576) (hF:sumOf (fun c=>c.fields.length) p≤1048576):DPure Tryz.prog 190 [.a (.sl (p.map Cs.at)),.a (.v (.string (bs s)))] (.a (.sl ((allF p s).map Fs.at))):=by
 have hch:=pr14Chain p s hn
 have zF:=Fs.z0
 have hok:=chain_ok p s
 unfold allF
 rw [←allT_all]
 generalize chainL p s=l at hch hok ⊢
 have hll:=hok.len
 have hTl:=fun t=>Nat.le_trans (allT_len hok t) hF
 have hw0:IntKind.i64.wrap ((l.length:Int)-1)=(l.length:Int)-1-(0:Nat):=by rw [wrap64 (by omega) (by omega)];omega
 refine DPure.go Tryz.func190 rfl Tryz.ntmps190 rfl rfl rfl (fun C hro=>?_)
 have fx:=trivial
 replace fx:=And.intro hw0 trivial
 repeat' (first|(refine RWL.fin ?_;try simp only [thenQ_n,blockQ_n])|refine stp [0,1,4,5,6,7,8,9,17,31] ?_|(refine RS.aO ?_;refine rnx ?_)|(refine RS.aN ?_;refine rnx ?_)|(refine RS.li ?_;refine rnx ?_)|(refine RS.sE ?_;refine rnx ?_)|(refine RS.aE ?_;refine rnx ?_)|(refine RS.aK ?_;refine rnx ?_)|(refine RS.lC ?_;refine rnx ?_)|(refine RS.xC ?_;refine rnx ?_)|(refine RS.bC ?_;refine rnx ?_)|refine RWL.fr ?_|refine RWL.wt ?_|refine RWL.lS ?_|refine RWL.aO ?_|refine RWL.aN ?_|refine RWL.bC ?_|(refine stc (r1:=by exact hch) (r2:=?_);refine rnx ?_)|(refine' WP.dl (id:=10) [0,0,2,0,8,0,56,120,254,510,1023,2047] [0,1,4,5,6,7,8,9,17,31] [10] [(10,_)] ?_)|refine RWL.re ?_ ?_|refine RdO.oz|refine RdO.oa ?_|refine RdO.oe ?_|refine RdO.on|refine WP.cn (fun hc=>?_) (fun hc=>?_)|fail)
 refine WP.loopG (α:={ y:Nat×Option Cs // y.1≤l.length∧(y.2=none→allT p l y.1=[])∧(y.2≠none→allT p l y.1≠[]) }) (fun y=>[(0,.a (.sl (p.map Cs.at))),(5,.a (.sl (l.map inAt))),(6,asEx y.1.2 (allT p l y.1.1).length),(7,.a (.v (.int .i64 ((l.length:Int)-1-(y.1.1:Nat)))))]) (fun y=>asBx y.1.2 (allT p l y.1.1)) (fun y=>l.length-y.1.1) ⟨(0,none),by omega,fun _=>rfl,fun h=>absurd rfl h⟩ (by simp only [Agree,go_sem,simprocAttr];first|done|rfl) (by first|rfl|(simp only [asBx];rfl)) ?_
 rintro⟨⟨t,o⟩,ht,hn1,hn2⟩
 dsimp only at ht hn1 hn2 ⊢
 by_cases hlt:t<l.length
 ·have hge:decide ((l.length:Int)-1-(t:Int)≥0)=true:=decide_eq_true (by omega)
  have hwd:IntKind.i64.wrap ((l.length:Int)-1-(t:Int)-1)=(l.length:Int)-1-((t+1:Nat):Int):=by rw [wrap64 (by omega) (by omega)];omega
  obtain⟨i,hi⟩:∃i,l[l.length-1-t]? = some i:=⟨_,List.getElem?_eq_getElem (by omega)⟩
  obtain⟨j,c,rfl,hj⟩:=hok.2 i (List.mem_of_getElem? hi)
  have hcm:c∈p:=List.mem_of_getElem? hj
  have hcf:c.fields.length≤1048576:=Nat.le_trans (sumOf_mem (f:=fun c:Cs=>c.fields.length) hcm) hF
  have hia:∀q2,ixD (some 1) q2 (.a (.sl (l.map inAt))) (.a (.v (.int .i64 ((l.length:Int)-1-(t:Int)))))=some (.a (.ref (inAt (j:Int)) 0)):=fun q2=>by
   rw [show (l.length:Int)-1-(t:Int)=((l.length-1-t:Nat):Int) by omega]
   exact ixD_at rfl (by rw [List.getElem?_map,hi];rfl) (by simp only [go_sem])
  have hja:∀q2,ixD (some 7) q2 (.a (.sl (p.map Cs.at))) (.a (.v (.int .i64 (j:Int))))=some (.a (.ref (Cs.at c) 0)):=fun q2=>ixD_at rfl (by rw [List.getElem?_map,hj];rfl) (by simp only [go_sem])
  have hsu:=allT_succ hi hlt hj
  cases o with
  | none =>
   have hR:=hn1 rfl
   rw [hR,List.nil_append] at hsu
   simp only [asEx,asBx]
   replace fx:=And.intro hge (And.intro hia (And.intro hja trivial))
   repeat' (first|(refine RWL.fin ?_;try simp only [thenQ_n,blockQ_n])|refine stp [0,1,4,5,6,7,8,9,17,31] ?_|(refine RS.aO ?_;refine rnx ?_)|(refine RS.aN ?_;refine rnx ?_)|(refine RS.ls ?_;refine rnx ?_)|(refine RS.sE ?_;refine rnx ?_)|(refine RS.aE ?_;refine rnx ?_)|(refine RS.aK ?_;refine rnx ?_)|(refine RS.lC ?_;refine rnx ?_)|(refine RS.xC ?_;refine rnx ?_)|(refine RS.bC ?_;refine rnx ?_)|refine RWL.fr ?_|refine RWL.wt ?_|refine RWL.lS ?_|refine RWL.aO ?_|refine RWL.aN ?_|refine RWL.bC ?_|(refine' WP.dl (id:=10) [0,0,2,0,8,0,56,120,254,510,1023,2047] [0,1,4,5,6,7,8,9,17,31] [10] [(10,_)] ?_)|refine RWL.re ?_ ?_|refine RdO.oz|refine RdO.oa ?_|refine RdO.oe ?_|refine RdO.on|refine WP.cn (fun hc=>?_) (fun hc=>?_)|fail)
   refine WP.loopG (α:={ k:Nat // k≤c.fields.length }) (fun y=>[(0,.a (.sl (p.map Cs.at))),(5,.a (.sl (l.map inAt))),(6,faE y.1),(7,.a (.v (.int .i64 ((l.length:Int)-1-(t:Nat))))),(8,.a (.ptr 0 0)),(9,.a (.v (.int .i64 (y.1:Nat))))]) (fun y=>faB c y.1) (fun y=>c.fields.length-y.1) ⟨0,by omega⟩ (by simp only [Agree,go_sem,simprocAttr,faE];first|done|rfl) rfl ?_
   rintro⟨k,hk⟩
   dsimp only
   by_cases hlk:k<c.fields.length
   ·replace hlt:=hlk
    have hlt2:decide ((k:Int)<((c.fields.length:Nat):Int))=true:=decide_eq_true (by omega)
    obtain⟨z,hz⟩:∃z,c.fields[k]? = some z:=⟨_,List.getElem?_eq_getElem hlt⟩
    have hzm:z∈c.fields:=List.mem_of_getElem? hz
    have hzt:=take_snocA hz
    have hix:∀q2,ixD (some 13) q2 (.a (.sl (c.fields.map Vr.at))) (.a (.v (.int .i64 (k:Int))))=some (.a (.ref (Vr.at z) 0)):=fun q2=>ixD_at rfl (by rw [List.getElem?_map,hz];rfl) (by simp only [go_sem])
    have hwu:=wrap64n (k:=k) (by omega)
    have hz0:((c.fields.take (k+1)).map (mkF c))=((c.fields.take k).map (mkF c))++[⟨c.name,z⟩]:=by rw [hzt,List.map_append];rfl
    cases k with
    | zero =>
     have hl0:decide (0<(c.fields.length:Int))=true:=decide_eq_true (by omega)
     have hx0:∀q2,ixD (some 13) q2 (.a (.sl (c.fields.map Vr.at))) (.a (.v (.int .i64 0)))=some (.a (.ref (Vr.at z) 0)):=fun q2=>hix q2
     simp only [faE,faB]
     replace fx:=And.intro hl0 (And.intro hx0 (And.intro zF trivial))
     repeat' (first|(refine RWL.fin ?_;try simp only [thenQ_n,blockQ_n])|refine stp [0,1,4,5,6,7,8,9,17,31] ?_|(refine RS.aO ?_;refine rnx ?_)|(refine RS.aN ?_;refine rnx ?_)|(refine RS.ls ?_;refine rnx ?_)|(refine RS.sE ?_;refine rnx ?_)|(refine RS.aE ?_;refine rnx ?_)|(refine RS.aK ?_;refine rnx ?_)|(refine RS.lC ?_;refine rnx ?_)|(refine RS.xC ?_;refine rnx ?_)|(refine RS.bC ?_;refine rnx ?_)|refine RWL.fr ?_|refine RWL.wt ?_|refine RWL.lS ?_|refine RWL.aO ?_|refine RWL.aN ?_|refine RWL.bC ?_|(refine' WP.dl (id:=10) [0,0,2,0,8,0,56,120,254,510,1023,2047] [0,1,4,5,6,7,8,9,17,31] [10] [(10,_)] ?_)|refine RWL.re ?_ ?_|refine RdO.oz|refine RdO.oa ?_|refine RdO.oe ?_|refine RdO.on|refine WP.cn (fun hc=>?_) (fun hc=>?_)|fail)
     refine⟨⟨1,by omega⟩,[],by dsimp only;omega,by simp [faB],by simp only [faE,Agree,go_sem,simprocAttr],by simp only [faB];rw [hz0];rfl,by simp only [nrE,nrD,List.all_cons,List.all_nil,go_sem,simprocAttr,asEx,faE],by simp only [nrE,nrD,List.all_cons,List.all_nil,go_sem,simprocAttr,Cs.nr,asBx,faB]⟩
    | succ k =>
     have hlen1:((c.fields.take (k+1)).map (mkF c)).length=k+1:=by rw [List.length_map,List.length_take];omega
     have hkk:(k==k)=true:=beq_self_eq_true k
     simp only [faE,faB]
     generalize hRR:(c.fields.take (k+1)).map (mkF c)=R at hlen1 hz0
     replace fx:=And.intro hlt2 (And.intro hix (And.intro hwu (And.intro hkk (And.intro zF trivial))))
     repeat' (first|(refine RWL.fin ?_;try simp only [thenQ_n,blockQ_n])|refine stp [0,1,4,5,6,7,8,9,17,31] ?_|(refine RS.aO ?_;refine rnx ?_)|(refine RS.aN ?_;refine rnx ?_)|(refine RS.ls ?_;refine rnx ?_)|(refine RS.sE ?_;refine rnx ?_)|(refine RS.aE ?_;refine rnx ?_)|(refine RS.aK ?_;refine rnx ?_)|(refine RS.lC ?_;refine rnx ?_)|(refine RS.xC ?_;refine rnx ?_)|(refine RS.bC ?_;refine rnx ?_)|refine RWL.fr ?_|refine RWL.wt ?_|refine RWL.lS ?_|refine RWL.aO ?_|refine RWL.aN ?_|refine RWL.bC ?_|(refine' WP.dl (id:=10) [0,0,2,0,8,0,56,120,254,510,1023,2047] [0,1,4,5,6,7,8,9,17,31] [10] [(10,_)] ?_)|refine RWL.re ?_ ?_|refine RdO.oz|refine RdO.oa ?_|refine RdO.oe ?_|refine RdO.on|refine WP.cn (fun hc=>?_) (fun hc=>?_)|fail)
     refine⟨⟨k+2,by omega⟩,[],by dsimp only;omega,by simp [faB],by simp only [faE,Agree,go_sem,simprocAttr],by simp only [faB];rw [hz0,List.map_append];rfl,by simp only [nrE,nrD,List.all_cons,List.all_nil,go_sem,simprocAttr,asEx,faE],by simp only [nrE,nrD,List.all_cons,List.all_nil,go_sem,simprocAttr,Cs.nr,asBx,faB]⟩
   ·obtain rfl:k=c.fields.length:=by omega
    have hlt2:decide ((c.fields.length:Int)<(c.fields.length:Int))=false:=decide_eq_false (by omega)
    generalize hm:c.fields.length=m at hlt2
    cases m with
    | zero =>
     have hc0:c.fields=[]:=List.eq_nil_of_length_eq_zero hm
     simp only [faE,faB]
     have hl0:decide (0<(c.fields.length:Int))=false:=decide_eq_false (by omega)
     replace fx:=And.intro hl0 (And.intro hwd trivial)
     repeat' (first|(refine RWL.fin ?_;try simp only [thenQ_n,blockQ_n])|refine stp [0,1,4,5,6,7,8,9,17,31] ?_|(refine RS.aO ?_;refine rnx ?_)|(refine RS.aN ?_;refine rnx ?_)|(refine RS.ls ?_;refine rnx ?_)|(refine RS.sE ?_;refine rnx ?_)|(refine RS.aE ?_;refine rnx ?_)|(refine RS.aK ?_;refine rnx ?_)|(refine RS.lC ?_;refine rnx ?_)|(refine RS.xC ?_;refine rnx ?_)|(refine RS.bC ?_;refine rnx ?_)|refine RWL.fr ?_|refine RWL.wt ?_|refine RWL.lS ?_|refine RWL.aO ?_|refine RWL.aN ?_|refine RWL.bC ?_|(refine' WP.dl (id:=10) [0,0,2,0,8,0,56,120,254,510,1023,2047] [0,1,4,5,6,7,8,9,17,31] [10] [(10,_)] ?_)|refine RWL.re ?_ ?_|refine RdO.oz|refine RdO.oa ?_|refine RdO.oe ?_|refine RdO.on|refine WP.cn (fun hc=>?_) (fun hc=>?_)|fail)
     refine⟨⟨(t+1,none),by dsimp only;omega,fun _=>by rw [hsu,hc0];rfl,fun h=>absurd rfl h⟩,[.cell (Cs.at c)],by dsimp only;omega,by simp [asBx],by simp only [asEx,Agree,go_sem,simprocAttr],rfl,by simp only [nrE,nrD,List.all_cons,List.all_nil,go_sem,simprocAttr,asEx,faE],by simp only [nrE,nrD,List.all_cons,List.all_nil,go_sem,simprocAttr,Cs.nr,asBx,faB]⟩
    | succ m =>
     have hfull:c.fields.take (m+1)=c.fields:=List.take_of_length_le (by omega)
     have hl1:decide (((m+1:Nat):Int)<(c.fields.length:Int))=false:=decide_eq_false (by omega)
     have hal:(allT p l (t+1)).length=m+1:=by rw [hsu,List.length_map,hm]
     simp only [faE,faB,hfull]
     replace fx:=And.intro hl1 (And.intro hwd trivial)
     repeat' (first|(refine RWL.fin ?_;try simp only [thenQ_n,blockQ_n])|refine stp [0,1,4,5,6,7,8,9,17,31] ?_|(refine RS.aO ?_;refine rnx ?_)|(refine RS.aN ?_;refine rnx ?_)|(refine RS.ls ?_;refine rnx ?_)|(refine RS.sE ?_;refine rnx ?_)|(refine RS.aE ?_;refine rnx ?_)|(refine RS.aK ?_;refine rnx ?_)|(refine RS.lC ?_;refine rnx ?_)|(refine RS.xC ?_;refine rnx ?_)|(refine RS.bC ?_;refine rnx ?_)|refine RWL.fr ?_|refine RWL.wt ?_|refine RWL.lS ?_|refine RWL.aO ?_|refine RWL.aN ?_|refine RWL.bC ?_|(refine' WP.dl (id:=10) [0,0,2,0,8,0,56,120,254,510,1023,2047] [0,1,4,5,6,7,8,9,17,31] [10] [(10,_)] ?_)|refine RWL.re ?_ ?_|refine RdO.oz|refine RdO.oa ?_|refine RdO.oe ?_|refine RdO.on|refine WP.cn (fun hc=>?_) (fun hc=>?_)|fail)
     refine⟨⟨(t+1,some c),by dsimp only;omega,fun h=>(by cases h),fun _ h=>(by rw [h] at hal;cases hal)⟩,[],by dsimp only;omega,by simp [asBx],by simp only [asEx,hal,Agree,go_sem,simprocAttr,Nat.add_sub_cancel],by simp only [asBx,hal,Nat.add_sub_cancel];rw [hsu];rfl,by simp only [nrE,nrD,List.all_cons,List.all_nil,go_sem,simprocAttr,asEx,faE],by simp only [nrE,nrD,List.all_cons,List.all_nil,go_sem,simprocAttr,Cs.nr,asBx,faB]⟩
  | some c0 =>
   have hR:=hn2 (fun h=>by cases h)
   have hTt:=hTl (t+1)
   rw [hsu] at hTt
   simp only [asEx,asBx]
   generalize allT p l t=R at hR hsu hTt ⊢
   obtain⟨r,hr⟩:∃r,R.length=r+1:=⟨R.length-1,by cases R with|nil=>exact absurd rfl hR|cons _ _=>simp⟩
   rw [List.length_append,List.length_map,hr] at hTt
   rw [hr,Nat.add_sub_cancel]
   replace fx:=And.intro hge (And.intro hia (And.intro hja trivial))
   repeat' (first|(refine RWL.fin ?_;try simp only [thenQ_n,blockQ_n])|refine stp [0,1,4,5,6,7,8,9,17,31] ?_|(refine RS.aO ?_;refine rnx ?_)|(refine RS.aN ?_;refine rnx ?_)|(refine RS.ls ?_;refine rnx ?_)|(refine RS.sE ?_;refine rnx ?_)|(refine RS.aE ?_;refine rnx ?_)|(refine RS.aK ?_;refine rnx ?_)|(refine RS.lC ?_;refine rnx ?_)|(refine RS.xC ?_;refine rnx ?_)|(refine RS.bC ?_;refine rnx ?_)|refine RWL.fr ?_|refine RWL.wt ?_|refine RWL.lS ?_|refine RWL.aO ?_|refine RWL.aN ?_|refine RWL.bC ?_|(refine' WP.dl (id:=10) [0,0,2,0,8,0,56,120,254,510,1023,2047] [0,1,4,5,6,7,8,9,17,31] [10] [(10,_)] ?_)|refine RWL.re ?_ ?_|refine RdO.oz|refine RdO.oa ?_|refine RdO.oe ?_|refine RdO.on|refine WP.cn (fun hc=>?_) (fun hc=>?_)|fail)
   refine WP.loopG (α:={ k:Nat // k≤c.fields.length }) (fun y=>[(0,.a (.sl (p.map Cs.at))),(5,.a (.sl (l.map inAt))),(6,.a (.own 1 (r+y.1))),(7,.a (.v (.int .i64 ((l.length:Int)-1-(t:Nat))))),(8,.a (.ptr 2 0)),(9,.a (.v (.int .i64 (y.1:Nat))))]) (fun y=>[.cell (Cs.at c0),.arr (r+y.1) 14 ((R++(c.fields.take y.1).map (mkF c)).map Fs.at),.cell (Cs.at c)]) (fun y=>c.fields.length-y.1) ⟨0,by omega⟩ (by simp only [Agree,go_sem,simprocAttr];first|done|rfl) (by simp only [List.take_zero,List.map_nil,List.append_nil,Nat.add_zero]) ?_
   rintro⟨k,hk⟩
   dsimp only
   by_cases hlk:k<c.fields.length
   ·replace hlt:=hlk
    have hlt2:decide ((k:Int)<((c.fields.length:Nat):Int))=true:=decide_eq_true (by omega)
    obtain⟨z,hz⟩:∃z,c.fields[k]? = some z:=⟨_,List.getElem?_eq_getElem hlt⟩
    have hzm:z∈c.fields:=List.mem_of_getElem? hz
    have hzt:=take_snocA hz
    have hix:∀q2,ixD (some 13) q2 (.a (.sl (c.fields.map Vr.at))) (.a (.v (.int .i64 (k:Int))))=some (.a (.ref (Vr.at z) 0)):=fun q2=>ixD_at rfl (by rw [List.getElem?_map,hz];rfl) (by simp only [go_sem])
    have hwu:=wrap64n (k:=k) (by omega)
    have hz0:R++((c.fields.take (k+1)).map (mkF c))=(R++(c.fields.take k).map (mkF c))++[⟨c.name,z⟩]:=by rw [hzt,List.map_append,List.append_assoc];rfl
    have hlen1:(R++(c.fields.take k).map (mkF c)).length=r+k+1:=by rw [List.length_append,List.length_map,List.length_take,hr];omega
    have hkk:(r+k==r+k)=true:=beq_self_eq_true _
    generalize R++(c.fields.take k).map (mkF c)=R2 at hz0 hlen1 ⊢
    replace fx:=And.intro hlt2 (And.intro hix (And.intro hwu (And.intro hkk (And.intro zF trivial))))
    repeat' (first|(refine RWL.fin ?_;try simp only [thenQ_n,blockQ_n])|refine stp [0,1,4,5,6,7,8,9,17,31] ?_|(refine RS.aO ?_;refine rnx ?_)|(refine RS.aN ?_;refine rnx ?_)|(refine RS.ls ?_;refine rnx ?_)|(refine RS.sE ?_;refine rnx ?_)|(refine RS.aE ?_;refine rnx ?_)|(refine RS.aK ?_;refine rnx ?_)|(refine RS.lC ?_;refine rnx ?_)|(refine RS.xC ?_;refine rnx ?_)|(refine RS.bC ?_;refine rnx ?_)|refine RWL.fr ?_|refine RWL.wt ?_|refine RWL.lS ?_|refine RWL.aO ?_|refine RWL.aN ?_|refine RWL.bC ?_|(refine' WP.dl (id:=10) [0,0,2,0,8,0,56,120,254,510,1023,2047] [0,1,4,5,6,7,8,9,17,31] [10] [(10,_)] ?_)|refine RWL.re ?_ ?_|refine RdO.oz|refine RdO.oa ?_|refine RdO.oe ?_|refine RdO.on|refine WP.cn (fun hc=>?_) (fun hc=>?_)|fail)
    refine⟨⟨k+1,by omega⟩,[],by dsimp only;omega,by simp,by simp only [Agree,go_sem,simprocAttr];try rfl,by rw [hz0,List.map_append];rfl,by simp only [nrE,nrD,List.all_cons,List.all_nil,go_sem,simprocAttr,asEx,faE],by simp only [nrE,nrD,List.all_cons,List.all_nil,go_sem,simprocAttr,Cs.nr,asBx,faB]⟩
   ·obtain rfl:k=c.fields.length:=by omega
    have hlt2:decide ((c.fields.length:Int)<(c.fields.length:Int))=false:=decide_eq_false (by omega)
    have hfull:c.fields.take c.fields.length=c.fields:=List.take_of_length_le (Nat.le_refl _)
    have hal:(allT p l (t+1)).length=r+c.fields.length+1:=by rw [hsu,List.length_append,List.length_map,hr];omega
    rw [hfull]
    replace fx:=And.intro hlt2 (And.intro hwd trivial)
    repeat' (first|(refine RWL.fin ?_;try simp only [thenQ_n,blockQ_n])|refine stp [0,1,4,5,6,7,8,9,17,31] ?_|(refine RS.aO ?_;refine rnx ?_)|(refine RS.aN ?_;refine rnx ?_)|(refine RS.ls ?_;refine rnx ?_)|(refine RS.sE ?_;refine rnx ?_)|(refine RS.aE ?_;refine rnx ?_)|(refine RS.aK ?_;refine rnx ?_)|(refine RS.lC ?_;refine rnx ?_)|(refine RS.xC ?_;refine rnx ?_)|(refine RS.bC ?_;refine rnx ?_)|refine RWL.fr ?_|refine RWL.wt ?_|refine RWL.lS ?_|refine RWL.aO ?_|refine RWL.aN ?_|refine RWL.bC ?_|(refine' WP.dl (id:=10) [0,0,2,0,8,0,56,120,254,510,1023,2047] [0,1,4,5,6,7,8,9,17,31] [10] [(10,_)] ?_)|refine RWL.re ?_ ?_|refine RdO.oz|refine RdO.oa ?_|refine RdO.oe ?_|refine RdO.on|refine WP.cn (fun hc=>?_) (fun hc=>?_)|fail)
    refine⟨⟨(t+1,some c0),by dsimp only;omega,fun h=>(by cases h),fun _ h=>(by rw [h] at hal;cases hal)⟩,[.cell (Cs.at c)],by dsimp only;omega,by simp [asBx],by simp only [asEx,hal,Agree,go_sem,simprocAttr,Nat.add_sub_cancel],by simp only [asBx,hal,Nat.add_sub_cancel];rw [hsu];rfl,by simp only [nrE,nrD,List.all_cons,List.all_nil,go_sem,simprocAttr,asEx,faE],by simp only [nrE,nrD,List.all_cons,List.all_nil,go_sem,simprocAttr,Cs.nr,asBx,faB]⟩
 ·obtain rfl:t=l.length:=by omega
  have hge:decide ((l.length:Int)-1-(l.length:Int)≥0)=false:=decide_eq_false (by omega)
  cases o with
  | none =>
   simp only [asEx,asBx]
   replace fx:=And.intro hge trivial
   repeat' (first|(refine RWL.fin ?_;try simp only [thenQ_n,blockQ_n])|refine stp [0,1,4,5,6,7,8,9,17,31] ?_|(refine RS.aO ?_;refine rnx ?_)|(refine RS.aN ?_;refine rnx ?_)|(refine RS.ls ?_;refine rnx ?_)|(refine RS.sE ?_;refine rnx ?_)|(refine RS.aE ?_;refine rnx ?_)|(refine RS.aK ?_;refine rnx ?_)|(refine RS.lC ?_;refine rnx ?_)|(refine RS.xC ?_;refine rnx ?_)|(refine RS.bC ?_;refine rnx ?_)|refine RWL.fr ?_|refine RWL.wt ?_|refine RWL.lS ?_|refine RWL.aO ?_|refine RWL.aN ?_|refine RWL.bC ?_|(refine' WP.dl (id:=10) [0,0,2,0,8,0,56,120,254,510,1023,2047] [0,1,4,5,6,7,8,9,17,31] [10] [(10,_)] ?_)|refine RWL.re ?_ ?_|refine RdO.oz|refine RdO.oa ?_|refine RdO.oe ?_|refine RdO.on|refine WP.cn (fun hc=>?_) (fun hc=>?_)|fail)
   rw [hn1 rfl];rfl
  | some c0 =>
   simp only [asEx,asBx]
   generalize allT p l l.length=R at hn2 ⊢
   replace fx:=And.intro hge trivial
   repeat' (first|(refine RWL.fin ?_;try simp only [thenQ_n,blockQ_n])|refine stp [0,1,4,5,6,7,8,9,17,31] ?_|(refine RS.aO ?_;refine rnx ?_)|(refine RS.aN ?_;refine rnx ?_)|(refine RS.ls ?_;refine rnx ?_)|(refine RS.sE ?_;refine rnx ?_)|(refine RS.aE ?_;refine rnx ?_)|(refine RS.aK ?_;refine rnx ?_)|(refine RS.lC ?_;refine rnx ?_)|(refine RS.xC ?_;refine rnx ?_)|(refine RS.bC ?_;refine rnx ?_)|refine RWL.fr ?_|refine RWL.wt ?_|refine RWL.lS ?_|refine RWL.aO ?_|refine RWL.aN ?_|refine RWL.bC ?_|(refine' WP.dl (id:=10) [0,0,2,0,8,0,56,120,254,510,1023,2047] [0,1,4,5,6,7,8,9,17,31] [10] [(10,_)] ?_)|refine RWL.re ?_ ?_|refine RdO.oz|refine RdO.oa ?_|refine RdO.oe ?_|refine RdO.on|refine WP.cn (fun hc=>?_) (fun hc=>?_)|fail)
   first|rfl|trace_state
theorem allF_len (p:List Cs) (s:List UInt8):(allF p s).length≤sumOf (fun c=>c.fields.length) p:=by
 have:=allT_len (chain_ok p s) (chainL p s).length
 rwa [allT_all] at this
def findF (p:List Cs) (s n:List UInt8):Int:=ixOf (fun f:Fs=>f.var.name==n) (allF p s) 0
def slotF (p:List Cs) (s n:List UInt8):Fs×Bool:=if findF p s n<0 then (Fs.zero,false) else (((allF p s)[(findF p s n).toNat]?).getD Fs.zero,true)
theorem pr16Find (p:List Cs) (s n:List UInt8) (hn:p.length≤1048576) (hF:sumOf (fun c=>c.fields.length) p≤1048576):DPure Tryz.prog 189 [.a (.sl (p.map Cs.at)),.a (.v (.string (bs s))),.a (.v (.string (bs n)))] (.a (.v (.int .i64 (findF p s n)))):=by
 have hA:=pr16All p s hn hF
 have hlen:=Nat.le_trans (allF_len p s) hF
 unfold findF
 generalize allF p s=l at hA hlen ⊢
 refine DPure.go Tryz.func189 rfl Tryz.ntmps189 rfl rfl rfl (fun C hro=>?_)
 have fx:=trivial
 repeat' (first|refine stp [0,1,2,6,7,8,15,25] ?_|(refine RS.lC ?_;refine rnx ?_)|(refine RS.xC ?_;refine rnx ?_)|(refine stc (r1:=by exact hA) (r2:=?_);refine rnx ?_)|refine WP.cn (fun hc=>?_) (fun hc=>?_)|fail)
 refine WP.loopX (α:={ k:Nat // k≤l.length∧(l.take k).any (fun f:Fs=>f.var.name==n)=false }) (fun y=>[(2,.a (.v (.string (bs n)))),(7,.a (.sl (l.map Fs.at))),(8,.a (.v (.int .i64 (y.1:Nat))))]) (fun _=>[]) (fun y=>l.length-y.1) ⟨0,by omega,rfl⟩ (by simp only [Agree,go_sem,simprocAttr];first|done|rfl) rfl ?_
 rintro⟨k,hk,hinv⟩
 dsimp only
 by_cases hlt:k<l.length
 ·have hlt2:decide ((k:Int)<((l.length:Nat):Int))=true:=decide_eq_true (by omega)
  obtain⟨z,hz⟩:∃z,l[k]? = some z:=⟨_,List.getElem?_eq_getElem hlt⟩
  have hzm:z∈l:=List.mem_of_getElem? hz
  have hzt:=take_snocA hz
  have hix:∀q2,ixD (some 14) q2 (.a (.sl (l.map Fs.at))) (.a (.v (.int .i64 (k:Int))))=some (.a (.ref (Fs.at z) 0)):=fun q2=>ixD_at rfl (by rw [List.getElem?_map,hz];rfl) (by simp only [go_sem])
  have hwu:=wrap64n (k:=k) (by omega)
  replace fx:=And.intro hlt2 (And.intro hix (And.intro hwu trivial))
  repeat' (first|refine stp [0,1,2,6,7,8,15,25] ?_|(refine RS.lC ?_;refine rnx ?_)|(refine RS.xC ?_;refine rnx ?_)|refine WP.cn (fun hc=>?_) (fun hc=>?_)|fail)
  ·exact int_eq (by rw [ixOf_at _ l k 0 z hz hinv hc,Nat.zero_add])
  ·refine⟨⟨k+1,by omega,by rw [hzt,List.any_append,hinv];simpa using hc⟩,[],by dsimp only;omega,by simp only [Agree,go_sem,simprocAttr],rfl,by simp only [nrE,nrD,List.all_cons,List.all_nil,go_sem,simprocAttr],by simp only [nrE,nrD,List.all_cons,List.all_nil,go_sem,simprocAttr]⟩
 obtain rfl:k=l.length:=by omega
 rw [List.take_length] at hinv
 have hlt2:decide ((l.length:Int)<(l.length:Int))=false:=decide_eq_false (by omega)
 replace fx:=And.intro hlt2 trivial
 repeat' (first|refine stp [0,1,2,6,7,8,15,25] ?_|(refine RS.lC ?_;refine rnx ?_)|(refine RS.xC ?_;refine rnx ?_)|refine WP.cn (fun hc=>?_) (fun hc=>?_)|fail)
 exact int_eq (by rw [ixOf_none _ l 0 hinv])
theorem pr16Of (p:List Cs) (s n:List UInt8) (hn:p.length≤1048576) (hF:sumOf (fun c=>c.fields.length) p≤1048576):DPure Tryz.prog 135 [.a (.sl (p.map Cs.at)),.a (.v (.string (bs s))),.a (.v (.string (bs n)))] (.t [.r (Fs.at (slotF p s n).1),.a (.v (.bool (slotF p s n).2))]):=by
 have hA:=pr16All p s hn hF
 have hf:=pr16Find p s n hn hF
 have zF:=Fs.z0
 rcases ixOf_get (fun f:Fs=>f.var.name==n) (allF p s) 0 with hp|⟨j,z,hz,_,hp⟩
 ·have hp':findF p s n = -1:=hp
  rw [hp'] at hf
  rw [show slotF p s n=(Fs.zero,false) by unfold slotF;rw [hp',if_pos (by omega)]]
  have hd:decide ((-1:Int)<0)=true:=by decide
  refine DPure.go Tryz.func135 rfl Tryz.ntmps135 rfl rfl rfl (fun C hro=>?_)
  have fx:=trivial
  replace fx:=And.intro hd (And.intro zF trivial)
  repeat' (first|refine stp [0,1,2,6,7,8,14] ?_|(refine RS.sE ?_;refine rnx ?_)|(refine RS.xC ?_;refine rnx ?_)|(refine stc (r1:=by exact hf) (r2:=?_);refine rnx ?_)|refine WP.cn (fun hc=>?_) (fun hc=>?_)|fail)
  rfl
 ·have hp':findF p s n=(j:Int):=by rw [Nat.zero_add] at hp;exact hp
  rw [hp'] at hf
  rw [show slotF p s n=(z,true) by unfold slotF;rw [hp',if_neg (by omega),Int.toNat_natCast,hz];rfl]
  have hd:decide ((j:Int)<0)=false:=decide_eq_false (by omega)
  have hjx:∀q2,ixD (some 14) q2 (.a (.sl ((allF p s).map Fs.at))) (.a (.v (.int .i64 (j:Int))))=some (.a (.ref (Fs.at z) 0)):=fun q2=>ixD_at rfl (by rw [List.getElem?_map,hz];rfl) (by simp only [go_sem])
  refine DPure.go Tryz.func135 rfl Tryz.ntmps135 rfl rfl rfl (fun C hro=>?_)
  have fx:=trivial
  replace fx:=And.intro hd (And.intro hjx (And.intro zF trivial))
  repeat' (first|refine stp [0,1,2,6,7,8,14] ?_|(refine RS.sE ?_;refine rnx ?_)|(refine RS.xC ?_;refine rnx ?_)|(refine stc (r1:=by first|exact hf|exact hA) (r2:=?_);refine rnx ?_)|refine WP.cn (fun hc=>?_) (fun hc=>?_)|fail)
  rfl
end Go.Proofs.YtibdalkdgjghoaaGreatDoor
