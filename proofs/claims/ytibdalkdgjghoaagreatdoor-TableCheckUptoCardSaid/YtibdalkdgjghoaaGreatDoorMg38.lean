/- slices.Grow and slices.Concat at variables: arena.Vars. Conditions: at most 2^20 variables each. -/
import Derived.Test.YtibdalkdgjghoaaGreatDoorMg14
import Derived.Test.YtibdalkdgjghoaaGreatDoorMg20
set_option linter.unusedVariables false
set_option maxRecDepth 100000
set_option maxHeartbeats 8000000
set_option linter.unusedSimpArgs false
namespace Go.Proofs.YtibdalkdgjghoaaGreatDoor
open Go.RowKit
theorem pGrowV0:DPure Tryz.prog 211 [.a .nl,.a (.v (.int .i64 0))] (.a (.sl [])):=by
 have hw0:IntKind.i64.wrap (0-0)=0:=by rfl
 refine DPure.go Tryz.func211 rfl Tryz.ntmps211 rfl rfl rfl (fun C hro=>?_)
 have fx:=trivial
 replace fx:=And.intro hw0 trivial
 repeat' (first|refine stp [0,1,4,6,16] ?_|(refine RS.aO ?_;refine rnx ?_)|(refine RS.aN ?_;refine rnx ?_)|(refine RS.cN' ?_;refine rnx ?_)|(refine RS.sN ?_;refine rnx ?_)|(refine RS.aE ?_;refine rnx ?_)|(refine RS.aK ?_;refine rnx ?_)|(refine RS.sC ?_;refine rnx ?_)|(refine RS.lC ?_;refine rnx ?_)|refine WP.cn (fun hc=>?_) (fun hc=>?_)|fail)
 all_goals rfl
theorem pGrowV (n:Nat) (h0:0<n) (hn:n≤4194304):DM Tryz.prog 211 [.a .nl,.a (.v (.int .i64 n))] [] (.a (.own 0 1)) [.arr 1 13 []]:=by
 have hw0:IntKind.i64.wrap (0-0)=0:=by rfl
 have hw1:IntKind.i64.wrap ((n:Int)-0)=(n:Int):=wrap64 (by omega) (by omega)
 have hl:decide ((n:Int)<0)=false:=decide_eq_false (by omega)
 have hg:decide ((n:Int)>0)=true:=decide_eq_true (by omega)
 refine DM.intro Tryz.func211 rfl Tryz.ntmps211 rfl rfl rfl (by simp only [go_sem,simprocAttr]) (fun V0 Kb Nx=>?_)
 have fx:=trivial
 replace fx:=And.intro hw0 (And.intro hw1 (And.intro hl (And.intro hg trivial)))
 repeat' (first|refine stp [0,1,4,6,16] ?_|(refine RS.aO ?_;refine rnx ?_)|(refine RS.aN ?_;refine rnx ?_)|(refine RS.cN' ?_;refine rnx ?_)|(refine RS.sN ?_;refine rnx ?_)|(refine RS.aE ?_;refine rnx ?_)|(refine RS.aK ?_;refine rnx ?_)|(refine RS.sC ?_;refine rnx ?_)|(refine RS.lC ?_;refine rnx ?_)|refine WP.cn (fun hc=>?_) (fun hc=>?_)|fail)
 refine RS.pop (h:=0) (rows':=[]) (by simp only [go_sem,simprocAttr]<;>rfl) (by simp only [go_sem,simprocAttr]<;>rfl) (by simp only [go_sem]<;>rfl) (by simp [bndD,evO,upd]) (List.take_zero) ?_
 refine RS.rn ?_
 simp only [RSr_mk]
 replace fx:=And.intro hw0 (And.intro hw1 (And.intro hl (And.intro hg trivial)))
 repeat' (first|refine stp [0,1,4,6,16] ?_|(refine RS.aO ?_;refine rnx ?_)|(refine RS.aN ?_;refine rnx ?_)|(refine RS.cN' ?_;refine rnx ?_)|(refine RS.sN ?_;refine rnx ?_)|(refine RS.aE ?_;refine rnx ?_)|(refine RS.aK ?_;refine rnx ?_)|(refine RS.sC ?_;refine rnx ?_)|(refine RS.lC ?_;refine rnx ?_)|refine WP.cn (fun hc=>?_) (fun hc=>?_)|fail)
 refine retM1 ?_
 exact⟨rfl,[],rfl⟩
theorem pConcatV (a b:List Vr) (ha:a.length≤1048576) (hb:b.length≤1048576):DPure Tryz.prog 155 [.a (.sl [[.sl (a.map Vr.at)],[.sl (b.map Vr.at)]])] (.a (.sl ((a++b).map Vr.at))):=by
 have hi0:∀q2,ixD (some 1) q2 (.a (.sl [[.sl (a.map Vr.at)],[.sl (b.map Vr.at)]])) (.a (.v (.int .i64 0)))=some (.a (.ref [.sl (a.map Vr.at)] 0)):=fun q2=>ixD_at rfl rfl (by simp only [go_sem])
 have hi1:∀q2,ixD (some 1) q2 (.a (.sl [[.sl (a.map Vr.at)],[.sl (b.map Vr.at)]])) (.a (.v (.int .i64 1)))=some (.a (.ref [.sl (b.map Vr.at)] 0)):=fun q2=>ixD_at rfl rfl (by simp only [go_sem])
 have hw0:IntKind.i64.wrap (0+(a.length:Int))=(a.length:Int):=wrap64 (by omega) (by omega) |>.trans (by omega)
 have hw1:IntKind.i64.wrap ((a.length:Int)+(b.length:Int))=((a.length+b.length:Nat):Int):=(wrap64 (by omega) (by omega)).trans (by omega)
 have hl0:decide ((a.length:Int)<0)=false:=decide_eq_false (by omega)
 have hl1:decide (((a.length+b.length:Nat):Int)<0)=false:=decide_eq_false (by omega)
 have hwa:IntKind.i64.wrap (0+1)=1:=by rfl
 have hwb:IntKind.i64.wrap (1+1)=2:=by rfl
 by_cases h0:a.length+b.length=0
 ·obtain rfl:a=[]:=List.eq_nil_of_length_eq_zero (by omega)
  obtain rfl:b=[]:=List.eq_nil_of_length_eq_zero (by omega)
  have hj0:∀q2,ixD (some 1) q2 (.a (.sl [[.sl []],[.sl []]])) (.a (.v (.int .i64 0)))=some (.a (.ref [.sl []] 0)):=fun q2=>ixD_at rfl rfl (by simp only [go_sem])
  have hj1:∀q2,ixD (some 1) q2 (.a (.sl [[.sl []],[.sl []]])) (.a (.v (.int .i64 1)))=some (.a (.ref [.sl []] 0)):=fun q2=>ixD_at rfl rfl (by simp only [go_sem])
  have hwz:IntKind.i64.wrap (0+0)=0:=by rfl
  refine DPure.go Tryz.func155 rfl Tryz.ntmps155 rfl rfl rfl (fun C hro=>?_)
  have fx:=trivial
  replace fx:=And.intro hj0 (And.intro hj1 (And.intro hwa (And.intro hwb (And.intro hwz trivial))))
  repeat' (first|refine stp [0,2,3,5,6,8,9,10,11,12,20,25,26,27,28] ?_|(refine RS.aO ?_;refine rnx ?_)|(refine RS.aN ?_;refine rnx ?_)|(refine RS.aE ?_;refine rnx ?_)|(refine RS.aK ?_;refine rnx ?_)|(refine RS.lC ?_;refine rnx ?_)|(refine RS.xC ?_;refine rnx ?_)|(refine stc (r1:=by exact pGrowV0) (r2:=?_);refine rnx ?_)|refine WP.cn (fun hc=>?_) (fun hc=>?_)|fail)
  refine WP.loop_in ?_
  refine WPIn.unroll ?_
  replace fx:=And.intro hj0 (And.intro hj1 (And.intro hwa (And.intro hwb (And.intro hwz trivial))))
  repeat' (first|refine stp [0,2,3,5,6,8,9,10,11,12,20,25,26,27,28] ?_|(refine RS.aO ?_;refine rnx ?_)|(refine RS.aN ?_;refine rnx ?_)|(refine RS.aE ?_;refine rnx ?_)|(refine RS.aK ?_;refine rnx ?_)|(refine RS.lC ?_;refine rnx ?_)|(refine RS.xC ?_;refine rnx ?_)|(refine stc (r1:=by exact pGrowV0) (r2:=?_);refine rnx ?_)|refine WP.cn (fun hc=>?_) (fun hc=>?_)|fail)
  refine WPIn.unroll ?_
  replace fx:=And.intro hj0 (And.intro hj1 (And.intro hwa (And.intro hwb (And.intro hwz trivial))))
  repeat' (first|refine stp [0,2,3,5,6,8,9,10,11,12,20,25,26,27,28] ?_|(refine RS.aO ?_;refine rnx ?_)|(refine RS.aN ?_;refine rnx ?_)|(refine RS.aE ?_;refine rnx ?_)|(refine RS.aK ?_;refine rnx ?_)|(refine RS.lC ?_;refine rnx ?_)|(refine RS.xC ?_;refine rnx ?_)|(refine stc (r1:=by exact pGrowV0) (r2:=?_);refine rnx ?_)|refine WP.cn (fun hc=>?_) (fun hc=>?_)|fail)
  refine WPIn.unroll ?_
  replace fx:=And.intro hj0 (And.intro hj1 (And.intro hwa (And.intro hwb (And.intro hwz trivial))))
  repeat' (first|refine stp [0,2,3,5,6,8,9,10,11,12,20,25,26,27,28] ?_|(refine RS.aO ?_;refine rnx ?_)|(refine RS.aN ?_;refine rnx ?_)|(refine RS.aE ?_;refine rnx ?_)|(refine RS.aK ?_;refine rnx ?_)|(refine RS.lC ?_;refine rnx ?_)|(refine RS.xC ?_;refine rnx ?_)|(refine stc (r1:=by exact pGrowV0) (r2:=?_);refine rnx ?_)|refine WP.cn (fun hc=>?_) (fun hc=>?_)|fail)
  refine WP.loop_in ?_
  refine WPIn.unroll ?_
  replace fx:=And.intro hj0 (And.intro hj1 (And.intro hwa (And.intro hwb (And.intro hwz trivial))))
  repeat' (first|refine stp [0,2,3,5,6,8,9,10,11,12,20,25,26,27,28] ?_|(refine RS.aO ?_;refine rnx ?_)|(refine RS.aN ?_;refine rnx ?_)|(refine RS.aE ?_;refine rnx ?_)|(refine RS.aK ?_;refine rnx ?_)|(refine RS.lC ?_;refine rnx ?_)|(refine RS.xC ?_;refine rnx ?_)|(refine stc (r1:=by exact pGrowV0) (r2:=?_);refine rnx ?_)|refine WP.cn (fun hc=>?_) (fun hc=>?_)|fail)
  refine WPIn.unroll ?_
  replace fx:=And.intro hj0 (And.intro hj1 (And.intro hwa (And.intro hwb (And.intro hwz trivial))))
  repeat' (first|refine stp [0,2,3,5,6,8,9,10,11,12,20,25,26,27,28] ?_|(refine RS.aO ?_;refine rnx ?_)|(refine RS.aN ?_;refine rnx ?_)|(refine RS.aE ?_;refine rnx ?_)|(refine RS.aK ?_;refine rnx ?_)|(refine RS.lC ?_;refine rnx ?_)|(refine RS.xC ?_;refine rnx ?_)|(refine stc (r1:=by exact pGrowV0) (r2:=?_);refine rnx ?_)|refine WP.cn (fun hc=>?_) (fun hc=>?_)|fail)
  refine WPIn.unroll ?_
  replace fx:=And.intro hj0 (And.intro hj1 (And.intro hwa (And.intro hwb (And.intro hwz trivial))))
  repeat' (first|refine stp [0,2,3,5,6,8,9,10,11,12,20,25,26,27,28] ?_|(refine RS.aO ?_;refine rnx ?_)|(refine RS.aN ?_;refine rnx ?_)|(refine RS.aE ?_;refine rnx ?_)|(refine RS.aK ?_;refine rnx ?_)|(refine RS.lC ?_;refine rnx ?_)|(refine RS.xC ?_;refine rnx ?_)|(refine stc (r1:=by exact pGrowV0) (r2:=?_);refine rnx ?_)|refine WP.cn (fun hc=>?_) (fun hc=>?_)|fail)
  rfl
 ·refine DPure.go Tryz.func155 rfl Tryz.ntmps155 rfl rfl rfl (fun C hro=>?_)
  have fx:=trivial
  replace fx:=And.intro hi0 (And.intro hi1 (And.intro hw0 (And.intro hw1 (And.intro hl0 (And.intro hl1 (And.intro hwa (And.intro hwb trivial)))))))
  repeat' (first|refine stp [0,2,3,5,6,8,9,10,11,12,20,25,26,27,28] ?_|(refine RS.aO ?_;refine rnx ?_)|(refine RS.aN ?_;refine rnx ?_)|(refine RS.aE ?_;refine rnx ?_)|(refine RS.aK ?_;refine rnx ?_)|(refine RS.lC ?_;refine rnx ?_)|(refine RS.xC ?_;refine rnx ?_)|(refine RS.cM [] (hp:=by exact pGrowV (a.length+b.length) (by omega) (by omega)) (h:=?_);refine rnx ?_)|refine WP.cn (fun hc=>?_) (fun hc=>?_)|fail)
  refine WP.loop_in ?_
  refine WPIn.unroll ?_
  replace fx:=And.intro hi0 (And.intro hi1 (And.intro hw0 (And.intro hw1 (And.intro hl0 (And.intro hl1 (And.intro hwa (And.intro hwb trivial)))))))
  repeat' (first|refine stp [0,2,3,5,6,8,9,10,11,12,20,25,26,27,28] ?_|(refine RS.aO ?_;refine rnx ?_)|(refine RS.aN ?_;refine rnx ?_)|(refine RS.aE ?_;refine rnx ?_)|(refine RS.aK ?_;refine rnx ?_)|(refine RS.lC ?_;refine rnx ?_)|(refine RS.xC ?_;refine rnx ?_)|(refine RS.cM [] (hp:=by exact pGrowV (a.length+b.length) (by omega) (by omega)) (h:=?_);refine rnx ?_)|refine WP.cn (fun hc=>?_) (fun hc=>?_)|fail)
  refine WPIn.unroll ?_
  replace fx:=And.intro hi0 (And.intro hi1 (And.intro hw0 (And.intro hw1 (And.intro hl0 (And.intro hl1 (And.intro hwa (And.intro hwb trivial)))))))
  repeat' (first|refine stp [0,2,3,5,6,8,9,10,11,12,20,25,26,27,28] ?_|(refine RS.aO ?_;refine rnx ?_)|(refine RS.aN ?_;refine rnx ?_)|(refine RS.aE ?_;refine rnx ?_)|(refine RS.aK ?_;refine rnx ?_)|(refine RS.lC ?_;refine rnx ?_)|(refine RS.xC ?_;refine rnx ?_)|(refine RS.cM [] (hp:=by exact pGrowV (a.length+b.length) (by omega) (by omega)) (h:=?_);refine rnx ?_)|refine WP.cn (fun hc=>?_) (fun hc=>?_)|fail)
  refine WPIn.unroll ?_
  replace fx:=And.intro hi0 (And.intro hi1 (And.intro hw0 (And.intro hw1 (And.intro hl0 (And.intro hl1 (And.intro hwa (And.intro hwb trivial)))))))
  repeat' (first|refine stp [0,2,3,5,6,8,9,10,11,12,20,25,26,27,28] ?_|(refine RS.aO ?_;refine rnx ?_)|(refine RS.aN ?_;refine rnx ?_)|(refine RS.aE ?_;refine rnx ?_)|(refine RS.aK ?_;refine rnx ?_)|(refine RS.lC ?_;refine rnx ?_)|(refine RS.xC ?_;refine rnx ?_)|(refine RS.cM [] (hp:=by exact pGrowV (a.length+b.length) (by omega) (by omega)) (h:=?_);refine rnx ?_)|refine WP.cn (fun hc=>?_) (fun hc=>?_)|fail)
  refine WP.loop_in ?_
  refine WPIn.unroll ?_
  replace fx:=And.intro hi0 (And.intro hi1 (And.intro hw0 (And.intro hw1 (And.intro hl0 (And.intro hl1 (And.intro hwa (And.intro hwb trivial)))))))
  repeat' (first|refine stp [0,2,3,5,6,8,9,10,11,12,20,25,26,27,28] ?_|(refine RS.aO ?_;refine rnx ?_)|(refine RS.aN ?_;refine rnx ?_)|(refine RS.aE ?_;refine rnx ?_)|(refine RS.aK ?_;refine rnx ?_)|(refine RS.lC ?_;refine rnx ?_)|(refine RS.xC ?_;refine rnx ?_)|(refine RS.cM [] (hp:=by exact pGrowV (a.length+b.length) (by omega) (by omega)) (h:=?_);refine rnx ?_)|refine WP.cn (fun hc=>?_) (fun hc=>?_)|fail)
  refine WPIn.unroll ?_
  replace fx:=And.intro hi0 (And.intro hi1 (And.intro hw0 (And.intro hw1 (And.intro hl0 (And.intro hl1 (And.intro hwa (And.intro hwb trivial)))))))
  repeat' (first|refine stp [0,2,3,5,6,8,9,10,11,12,20,25,26,27,28] ?_|(refine RS.aO ?_;refine rnx ?_)|(refine RS.aN ?_;refine rnx ?_)|(refine RS.aE ?_;refine rnx ?_)|(refine RS.aK ?_;refine rnx ?_)|(refine RS.lC ?_;refine rnx ?_)|(refine RS.xC ?_;refine rnx ?_)|(refine RS.cM [] (hp:=by exact pGrowV (a.length+b.length) (by omega) (by omega)) (h:=?_);refine rnx ?_)|refine WP.cn (fun hc=>?_) (fun hc=>?_)|fail)
  refine WPIn.unroll ?_
  replace fx:=And.intro hi0 (And.intro hi1 (And.intro hw0 (And.intro hw1 (And.intro hl0 (And.intro hl1 (And.intro hwa (And.intro hwb trivial)))))))
  repeat' (first|refine stp [0,2,3,5,6,8,9,10,11,12,20,25,26,27,28] ?_|(refine RS.aO ?_;refine rnx ?_)|(refine RS.aN ?_;refine rnx ?_)|(refine RS.aE ?_;refine rnx ?_)|(refine RS.aK ?_;refine rnx ?_)|(refine RS.lC ?_;refine rnx ?_)|(refine RS.xC ?_;refine rnx ?_)|(refine RS.cM [] (hp:=by exact pGrowV (a.length+b.length) (by omega) (by omega)) (h:=?_);refine rnx ?_)|refine WP.cn (fun hc=>?_) (fun hc=>?_)|fail)
  rw [List.map_append]
theorem pVarsA (m:Me) (ha:m.params.length≤1048576) (hb:m.locals.length≤1048576):DPure Tryz.prog 96 [.r (Me.at m)] (.a (.sl ((m.params++m.locals).map Vr.at))):=by
 refine DPure.go Tryz.func96 rfl Tryz.ntmps96 rfl rfl rfl (fun C hro=>?_)
 have fx:=trivial
 repeat' (first|refine stp [0,1,2] ?_|(refine RS.ls ?_;refine rnx ?_)|(refine RS.bC ?_;refine rnx ?_)|(refine stc (r1:=by exact pConcatV m.params m.locals ha hb) (r2:=?_);refine rnx ?_)|fail)
 rfl
end Go.Proofs.YtibdalkdgjghoaaGreatDoor
