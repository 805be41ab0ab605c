/- slices.Grow and slices.Concat at variables: arena.Vars. Conditions: at most 2^20 variables each. -/
import Derived.Test.YtibdalkdgjghoaaDoorMg14
import Derived.Test.YtibdalkdgjghoaaDoorMg18
import Derived.Test.YtibdalkdgjghoaaDoorMg33
import Derived.Test.YtibdalkdgjghoaaDoorMg31
import Derived.Test.YtibdalkdgjghoaaDoorMg34
import Derived.Test.YtibdalkdgjghoaaDoorMg35
import Derived.Test.YtibdalkdgjghoaaDoorMg36
import Derived.Test.YtibdalkdgjghoaaDoorMg37
import Derived.Lib.SmallJoins
import Derived.Test.YtibdalkdgjghoaaDoorMg38
import Derived.Test.YtibdalkdgjghoaaDoorMg39
set_option linter.unusedVariables false
set_option maxRecDepth 100000
set_option maxHeartbeats 8000000
set_option linter.unusedSimpArgs false
namespace Go.Proofs.YtibdalkdgjghoaaDoor
open Go.RowKit
theorem pGrowV0:DPure Tryd.prog 57 [.a .nl,.a (.v (.int .i64 0))] (.a (.sl [])):=by
 have hw0:IntKind.i64.wrap (0-0)=0:=by rfl
 refine DPure.go Tryd.func57 rfl Tryd.ntmps57 rfl rfl rfl (fun C hro=>?_)
 have fx:=trivial
 replace fx:=And.intro hw0 trivial
 repeat' (first|refine stp [0,1,4,6,16] ?_|(refine RS.aO ?_;refine rnx ?_)|(refine RS.aN ?_;refine rnx ?_)|(refine RS.cN' ?_;refine rnx ?_)|(refine RS.sN ?_;refine rnx ?_)|(refine RS.aE ?_;refine rnx ?_)|(refine RS.aK ?_;refine rnx ?_)|(refine RS.sC ?_;refine rnx ?_)|(refine RS.lC ?_;refine rnx ?_)|refine WP.cn (fun hc=>?_) (fun hc=>?_)|fail)
 all_goals rfl
theorem pGrowV (n:Nat) (h0:0<n) (hn:n≤4194304):DM Tryd.prog 57 [.a .nl,.a (.v (.int .i64 n))] [] (.a (.own 0 1)) [.arr 1 13 []]:=by
 have hw0:IntKind.i64.wrap (0-0)=0:=by rfl
 have hw1:IntKind.i64.wrap ((n:Int)-0)=(n:Int):=wrap64 (by omega) (by omega)
 have hl:decide ((n:Int)<0)=false:=decide_eq_false (by omega)
 have hg:decide ((n:Int)>0)=true:=decide_eq_true (by omega)
 refine DM.intro Tryd.func57 rfl Tryd.ntmps57 rfl rfl rfl (by simp only [go_sem,simprocAttr]) (fun V0 Kb Nx=>?_)
 have fx:=trivial
 replace fx:=And.intro hw0 (And.intro hw1 (And.intro hl (And.intro hg trivial)))
 repeat' (first|refine stp [0,1,4,6,16] ?_|(refine RS.aO ?_;refine rnx ?_)|(refine RS.aN ?_;refine rnx ?_)|(refine RS.cN' ?_;refine rnx ?_)|(refine RS.sN ?_;refine rnx ?_)|(refine RS.aE ?_;refine rnx ?_)|(refine RS.aK ?_;refine rnx ?_)|(refine RS.sC ?_;refine rnx ?_)|(refine RS.lC ?_;refine rnx ?_)|refine WP.cn (fun hc=>?_) (fun hc=>?_)|fail)
 refine RS.pop (h:=0) (rows':=[]) (by simp only [go_sem,simprocAttr]<;>rfl) (by simp only [go_sem,simprocAttr]<;>rfl) (by simp only [go_sem]<;>rfl) (by simp [bndD,evO,upd]) (List.take_zero) ?_
 refine RS.rn ?_
 simp only [RSr_mk]
 replace fx:=And.intro hw0 (And.intro hw1 (And.intro hl (And.intro hg trivial)))
 repeat' (first|refine stp [0,1,4,6,16] ?_|(refine RS.aO ?_;refine rnx ?_)|(refine RS.aN ?_;refine rnx ?_)|(refine RS.cN' ?_;refine rnx ?_)|(refine RS.sN ?_;refine rnx ?_)|(refine RS.aE ?_;refine rnx ?_)|(refine RS.aK ?_;refine rnx ?_)|(refine RS.sC ?_;refine rnx ?_)|(refine RS.lC ?_;refine rnx ?_)|refine WP.cn (fun hc=>?_) (fun hc=>?_)|fail)
 refine retM1 ?_
 exact⟨rfl,[],rfl⟩
theorem pConcatV (a b:List Vr) (ha:a.length≤2097152) (hb:b.length≤2097152):DPure Tryd.prog 44 [.a (.sl [[.sl (a.map Vr.at)],[.sl (b.map Vr.at)]])] (.a (.sl ((a++b).map Vr.at))):=by
 have hi0:∀q2,ixD (some 1) q2 (.a (.sl [[.sl (a.map Vr.at)],[.sl (b.map Vr.at)]])) (.a (.v (.int .i64 0)))=some (.a (.ref [.sl (a.map Vr.at)] 0)):=fun q2=>ixD_at rfl rfl (by simp only [go_sem])
 have hi1:∀q2,ixD (some 1) q2 (.a (.sl [[.sl (a.map Vr.at)],[.sl (b.map Vr.at)]])) (.a (.v (.int .i64 1)))=some (.a (.ref [.sl (b.map Vr.at)] 0)):=fun q2=>ixD_at rfl rfl (by simp only [go_sem])
 have hw0:IntKind.i64.wrap (0+(a.length:Int))=(a.length:Int):=wrap64 (by omega) (by omega) |>.trans (by omega)
 have hw1:IntKind.i64.wrap ((a.length:Int)+(b.length:Int))=((a.length+b.length:Nat):Int):=(wrap64 (by omega) (by omega)).trans (by omega)
 have hl0:decide ((a.length:Int)<0)=false:=decide_eq_false (by omega)
 have hl1:decide (((a.length+b.length:Nat):Int)<0)=false:=decide_eq_false (by omega)
 have hwa:IntKind.i64.wrap (0+1)=1:=by rfl
 have hwb:IntKind.i64.wrap (1+1)=2:=by rfl
 by_cases h0:a.length+b.length=0
 ·obtain rfl:a=[]:=List.eq_nil_of_length_eq_zero (by omega)
  obtain rfl:b=[]:=List.eq_nil_of_length_eq_zero (by omega)
  have hj0:∀q2,ixD (some 1) q2 (.a (.sl [[.sl []],[.sl []]])) (.a (.v (.int .i64 0)))=some (.a (.ref [.sl []] 0)):=fun q2=>ixD_at rfl rfl (by simp only [go_sem])
  have hj1:∀q2,ixD (some 1) q2 (.a (.sl [[.sl []],[.sl []]])) (.a (.v (.int .i64 1)))=some (.a (.ref [.sl []] 0)):=fun q2=>ixD_at rfl rfl (by simp only [go_sem])
  have hwz:IntKind.i64.wrap (0+0)=0:=by rfl
  refine DPure.go Tryd.func44 rfl Tryd.ntmps44 rfl rfl rfl (fun C hro=>?_)
  have fx:=trivial
  replace fx:=And.intro hj0 (And.intro hj1 (And.intro hwa (And.intro hwb (And.intro hwz trivial))))
  repeat' (first|refine stp [0,2,3,5,6,8,9,10,11,12,20,25,26,27,28] ?_|(refine RS.aO ?_;refine rnx ?_)|(refine RS.aN ?_;refine rnx ?_)|(refine RS.aE ?_;refine rnx ?_)|(refine RS.aK ?_;refine rnx ?_)|(refine RS.lC ?_;refine rnx ?_)|(refine RS.xC ?_;refine rnx ?_)|(refine stc (r1:=by exact pGrowV0) (r2:=?_);refine rnx ?_)|refine WP.cn (fun hc=>?_) (fun hc=>?_)|fail)
  refine WP.loop_in ?_
  refine WPIn.unroll ?_
  replace fx:=And.intro hj0 (And.intro hj1 (And.intro hwa (And.intro hwb (And.intro hwz trivial))))
  repeat' (first|refine stp [0,2,3,5,6,8,9,10,11,12,20,25,26,27,28] ?_|(refine RS.aO ?_;refine rnx ?_)|(refine RS.aN ?_;refine rnx ?_)|(refine RS.aE ?_;refine rnx ?_)|(refine RS.aK ?_;refine rnx ?_)|(refine RS.lC ?_;refine rnx ?_)|(refine RS.xC ?_;refine rnx ?_)|(refine stc (r1:=by exact pGrowV0) (r2:=?_);refine rnx ?_)|refine WP.cn (fun hc=>?_) (fun hc=>?_)|fail)
  refine WPIn.unroll ?_
  replace fx:=And.intro hj0 (And.intro hj1 (And.intro hwa (And.intro hwb (And.intro hwz trivial))))
  repeat' (first|refine stp [0,2,3,5,6,8,9,10,11,12,20,25,26,27,28] ?_|(refine RS.aO ?_;refine rnx ?_)|(refine RS.aN ?_;refine rnx ?_)|(refine RS.aE ?_;refine rnx ?_)|(refine RS.aK ?_;refine rnx ?_)|(refine RS.lC ?_;refine rnx ?_)|(refine RS.xC ?_;refine rnx ?_)|(refine stc (r1:=by exact pGrowV0) (r2:=?_);refine rnx ?_)|refine WP.cn (fun hc=>?_) (fun hc=>?_)|fail)
  refine WPIn.unroll ?_
  replace fx:=And.intro hj0 (And.intro hj1 (And.intro hwa (And.intro hwb (And.intro hwz trivial))))
  repeat' (first|refine stp [0,2,3,5,6,8,9,10,11,12,20,25,26,27,28] ?_|(refine RS.aO ?_;refine rnx ?_)|(refine RS.aN ?_;refine rnx ?_)|(refine RS.aE ?_;refine rnx ?_)|(refine RS.aK ?_;refine rnx ?_)|(refine RS.lC ?_;refine rnx ?_)|(refine RS.xC ?_;refine rnx ?_)|(refine stc (r1:=by exact pGrowV0) (r2:=?_);refine rnx ?_)|refine WP.cn (fun hc=>?_) (fun hc=>?_)|fail)
  refine WP.loop_in ?_
  refine WPIn.unroll ?_
  replace fx:=And.intro hj0 (And.intro hj1 (And.intro hwa (And.intro hwb (And.intro hwz trivial))))
  repeat' (first|refine stp [0,2,3,5,6,8,9,10,11,12,20,25,26,27,28] ?_|(refine RS.aO ?_;refine rnx ?_)|(refine RS.aN ?_;refine rnx ?_)|(refine RS.aE ?_;refine rnx ?_)|(refine RS.aK ?_;refine rnx ?_)|(refine RS.lC ?_;refine rnx ?_)|(refine RS.xC ?_;refine rnx ?_)|(refine stc (r1:=by exact pGrowV0) (r2:=?_);refine rnx ?_)|refine WP.cn (fun hc=>?_) (fun hc=>?_)|fail)
  refine WPIn.unroll ?_
  replace fx:=And.intro hj0 (And.intro hj1 (And.intro hwa (And.intro hwb (And.intro hwz trivial))))
  repeat' (first|refine stp [0,2,3,5,6,8,9,10,11,12,20,25,26,27,28] ?_|(refine RS.aO ?_;refine rnx ?_)|(refine RS.aN ?_;refine rnx ?_)|(refine RS.aE ?_;refine rnx ?_)|(refine RS.aK ?_;refine rnx ?_)|(refine RS.lC ?_;refine rnx ?_)|(refine RS.xC ?_;refine rnx ?_)|(refine stc (r1:=by exact pGrowV0) (r2:=?_);refine rnx ?_)|refine WP.cn (fun hc=>?_) (fun hc=>?_)|fail)
  refine WPIn.unroll ?_
  replace fx:=And.intro hj0 (And.intro hj1 (And.intro hwa (And.intro hwb (And.intro hwz trivial))))
  repeat' (first|refine stp [0,2,3,5,6,8,9,10,11,12,20,25,26,27,28] ?_|(refine RS.aO ?_;refine rnx ?_)|(refine RS.aN ?_;refine rnx ?_)|(refine RS.aE ?_;refine rnx ?_)|(refine RS.aK ?_;refine rnx ?_)|(refine RS.lC ?_;refine rnx ?_)|(refine RS.xC ?_;refine rnx ?_)|(refine stc (r1:=by exact pGrowV0) (r2:=?_);refine rnx ?_)|refine WP.cn (fun hc=>?_) (fun hc=>?_)|fail)
  rfl
 ·refine DPure.go Tryd.func44 rfl Tryd.ntmps44 rfl rfl rfl (fun C hro=>?_)
  have fx:=trivial
  replace fx:=And.intro hi0 (And.intro hi1 (And.intro hw0 (And.intro hw1 (And.intro hl0 (And.intro hl1 (And.intro hwa (And.intro hwb trivial)))))))
  repeat' (first|refine stp [0,2,3,5,6,8,9,10,11,12,20,25,26,27,28] ?_|(refine RS.aO ?_;refine rnx ?_)|(refine RS.aN ?_;refine rnx ?_)|(refine RS.aE ?_;refine rnx ?_)|(refine RS.aK ?_;refine rnx ?_)|(refine RS.lC ?_;refine rnx ?_)|(refine RS.xC ?_;refine rnx ?_)|(refine RS.cM [] (hp:=by exact pGrowV (a.length+b.length) (by omega) (by omega)) (h:=?_);refine rnx ?_)|refine WP.cn (fun hc=>?_) (fun hc=>?_)|fail)
  refine WP.loop_in ?_
  refine WPIn.unroll ?_
  replace fx:=And.intro hi0 (And.intro hi1 (And.intro hw0 (And.intro hw1 (And.intro hl0 (And.intro hl1 (And.intro hwa (And.intro hwb trivial)))))))
  repeat' (first|refine stp [0,2,3,5,6,8,9,10,11,12,20,25,26,27,28] ?_|(refine RS.aO ?_;refine rnx ?_)|(refine RS.aN ?_;refine rnx ?_)|(refine RS.aE ?_;refine rnx ?_)|(refine RS.aK ?_;refine rnx ?_)|(refine RS.lC ?_;refine rnx ?_)|(refine RS.xC ?_;refine rnx ?_)|(refine RS.cM [] (hp:=by exact pGrowV (a.length+b.length) (by omega) (by omega)) (h:=?_);refine rnx ?_)|refine WP.cn (fun hc=>?_) (fun hc=>?_)|fail)
  refine WPIn.unroll ?_
  replace fx:=And.intro hi0 (And.intro hi1 (And.intro hw0 (And.intro hw1 (And.intro hl0 (And.intro hl1 (And.intro hwa (And.intro hwb trivial)))))))
  repeat' (first|refine stp [0,2,3,5,6,8,9,10,11,12,20,25,26,27,28] ?_|(refine RS.aO ?_;refine rnx ?_)|(refine RS.aN ?_;refine rnx ?_)|(refine RS.aE ?_;refine rnx ?_)|(refine RS.aK ?_;refine rnx ?_)|(refine RS.lC ?_;refine rnx ?_)|(refine RS.xC ?_;refine rnx ?_)|(refine RS.cM [] (hp:=by exact pGrowV (a.length+b.length) (by omega) (by omega)) (h:=?_);refine rnx ?_)|refine WP.cn (fun hc=>?_) (fun hc=>?_)|fail)
  refine WPIn.unroll ?_
  replace fx:=And.intro hi0 (And.intro hi1 (And.intro hw0 (And.intro hw1 (And.intro hl0 (And.intro hl1 (And.intro hwa (And.intro hwb trivial)))))))
  repeat' (first|refine stp [0,2,3,5,6,8,9,10,11,12,20,25,26,27,28] ?_|(refine RS.aO ?_;refine rnx ?_)|(refine RS.aN ?_;refine rnx ?_)|(refine RS.aE ?_;refine rnx ?_)|(refine RS.aK ?_;refine rnx ?_)|(refine RS.lC ?_;refine rnx ?_)|(refine RS.xC ?_;refine rnx ?_)|(refine RS.cM [] (hp:=by exact pGrowV (a.length+b.length) (by omega) (by omega)) (h:=?_);refine rnx ?_)|refine WP.cn (fun hc=>?_) (fun hc=>?_)|fail)
  refine WP.loop_in ?_
  refine WPIn.unroll ?_
  replace fx:=And.intro hi0 (And.intro hi1 (And.intro hw0 (And.intro hw1 (And.intro hl0 (And.intro hl1 (And.intro hwa (And.intro hwb trivial)))))))
  repeat' (first|refine stp [0,2,3,5,6,8,9,10,11,12,20,25,26,27,28] ?_|(refine RS.aO ?_;refine rnx ?_)|(refine RS.aN ?_;refine rnx ?_)|(refine RS.aE ?_;refine rnx ?_)|(refine RS.aK ?_;refine rnx ?_)|(refine RS.lC ?_;refine rnx ?_)|(refine RS.xC ?_;refine rnx ?_)|(refine RS.cM [] (hp:=by exact pGrowV (a.length+b.length) (by omega) (by omega)) (h:=?_);refine rnx ?_)|refine WP.cn (fun hc=>?_) (fun hc=>?_)|fail)
  refine WPIn.unroll ?_
  replace fx:=And.intro hi0 (And.intro hi1 (And.intro hw0 (And.intro hw1 (And.intro hl0 (And.intro hl1 (And.intro hwa (And.intro hwb trivial)))))))
  repeat' (first|refine stp [0,2,3,5,6,8,9,10,11,12,20,25,26,27,28] ?_|(refine RS.aO ?_;refine rnx ?_)|(refine RS.aN ?_;refine rnx ?_)|(refine RS.aE ?_;refine rnx ?_)|(refine RS.aK ?_;refine rnx ?_)|(refine RS.lC ?_;refine rnx ?_)|(refine RS.xC ?_;refine rnx ?_)|(refine RS.cM [] (hp:=by exact pGrowV (a.length+b.length) (by omega) (by omega)) (h:=?_);refine rnx ?_)|refine WP.cn (fun hc=>?_) (fun hc=>?_)|fail)
  refine WPIn.unroll ?_
  replace fx:=And.intro hi0 (And.intro hi1 (And.intro hw0 (And.intro hw1 (And.intro hl0 (And.intro hl1 (And.intro hwa (And.intro hwb trivial)))))))
  repeat' (first|refine stp [0,2,3,5,6,8,9,10,11,12,20,25,26,27,28] ?_|(refine RS.aO ?_;refine rnx ?_)|(refine RS.aN ?_;refine rnx ?_)|(refine RS.aE ?_;refine rnx ?_)|(refine RS.aK ?_;refine rnx ?_)|(refine RS.lC ?_;refine rnx ?_)|(refine RS.xC ?_;refine rnx ?_)|(refine RS.cM [] (hp:=by exact pGrowV (a.length+b.length) (by omega) (by omega)) (h:=?_);refine rnx ?_)|refine WP.cn (fun hc=>?_) (fun hc=>?_)|fail)
  rw [List.map_append]
theorem pVarsA (m:Me) (ha:m.params.length≤2097152) (hb:m.locals.length≤2097152):DPure Tryd.prog 34 [.r (Me.at m)] (.a (.sl ((m.params++m.locals).map Vr.at))):=by
 refine DPure.go Tryd.func34 rfl Tryd.ntmps34 rfl rfl rfl (fun C hro=>?_)
 have fx:=trivial
 repeat' (first|refine stp [0,1,2] ?_|(refine RS.ls ?_;refine rnx ?_)|(refine RS.bC ?_;refine rnx ?_)|(refine stc (r1:=by exact pConcatV m.params m.locals ha hb) (r2:=?_);refine rnx ?_)|fail)
 rfl
end Go.Proofs.YtibdalkdgjghoaaDoor
namespace Go.Proofs.YtibdalkdgjghoaaDoor
open Go.RowKit
theorem once_no {l:List (List UInt8)} {s:List UInt8} (h:(l.any fun y=>y==s)=false):DM Tryd.prog 31 [.a (.mp 0),.a (.v (.string (bs s)))] [.map .str false (mpS (ones l))] (.a (.v (.bool true))) [.map .str false (mpS (ones (l++[s])))]:=by
 have hl:=lk_ones l s
 rw [h,if_neg Bool.false_ne_true] at hl
 have:=ptOnce (ones l) s 1 (by rw [hl];rfl)
 rw [put_ones h] at this
 exact this
theorem once_yes {l:List (List UInt8)} {s:List UInt8} (h:(l.any fun y=>y==s)=true):DM Tryd.prog 31 [.a (.mp 0),.a (.v (.string (bs s)))] [.map .str false (mpS (ones l))] (.a (.v (.bool false))) [.map .str false (mpS (putI (ones l) s 2))]:=by
 have hl:=lk_ones l s
 rw [h,if_pos rfl] at hl
 exact ptOnce (ones l) s 2 (by rw [hl];rfl)
theorem ptBadC (p:List Cs) (e a e0 a0:Int) (A1 A2:List (List UInt8×Int)):DM Tryd.prog 32 [.a (.ptr 0 0),.a (.v (.int .i64 e)),.a (.v (.int .i64 a))] [.cell (ckAt p e0 a0),.map .str false (mpS A1),.map .str false (mpS A2)] (.a (.v (.bool false))) [.cell (ckAt p e a),.map .str false (mpS A1),.map .str false (mpS A2)]:=ptBad p e a e0 a0 _ _ (mpS_nr 3 _) (mpS_nr 3 _)
def isOk (f:Option (Int×Int)):Bool:=match f with|none=>true|some _=>false
def fOf (f:Option (Int×Int)):Int×Int:=match f with|none=>(0,0)|some g=>g
theorem twV_round {l:List Vr} {k:Nat} {z:Vr} (hd:l.drop k=z::l.drop (k+1)) (ht:l.take (k+1)=l.take k++[z]):twV ((l.take k).map Vr.name) (l.drop k)=if (((l.take k).map Vr.name).any fun y=>y==z.name)=true then some z.at_ else twV ((l.take (k+1)).map Vr.name) (l.drop (k+1)):=by
 rw [hd,twV,ht,List.map_append];rfl
theorem ptVars (p:List Cs) (A1 A2:List (List UInt8×Int)) (l:List Vr) (hn:l.length≤4194304):DM Tryd.prog 18 [.a (.ptr 0 0),.a (.sl (l.map Vr.at))] [.cell (ckAt p 0 0),.map .str false (mpS A1),.map .str false (mpS A2)] (.a (.v (.bool (isOk (varsF l))))) [.cell (ckAt p (fOf (varsF l)).1 (fOf (varsF l)).2),.map .str false (mpS A1),.map .str false (mpS A2)]:=by
 have hr1:=mpS_nr 3 A1
 have hr2:=mpS_nr 3 A2
 have hr3:=fun A=>mpS_nr 4 A
 unfold ckAt
 refine DM.intro Tryd.func18 rfl Tryd.ntmps18 rfl rfl rfl (by simp only [go_sem,simprocAttr,hr1,hr2]) (fun V0 Kb Nx=>?_)
 have fx:=trivial
 repeat' (first|refine stp [0,1,4,5,7,9,10,11,12,19] ?_|(refine RS.sE ?_;refine rnx ?_)|(refine RS.mM ?_;refine rnx ?_)|(refine RS.lC ?_;refine rnx ?_)|(refine RS.xC ?_;refine rnx ?_)|refine WP.cn (fun hc=>?_) (fun hc=>?_)|fail)
 refine WP.each l Vr.at 13 (fun k=>[(0,.a (.ptr 0 0)),(5,.a (.mp 3)),(9,.a (.sl (l.map Vr.at))),(10,.a (.v (.int .i64 (l.length:Nat)))),(11,.a (.v (.int .i64 (k:Nat))))]) (fun k=>[.cell (ckAt p 0 0),.map .str false (mpS A1),.map .str false (mpS A2),.map .str false (mpS (ones ((l.take k).map Vr.name)))]) (fun k=>twV [] l=twV ((l.take k).map Vr.name) (l.drop k)) (by simp only [Agree,go_sem,simprocAttr];first|done|rfl) rfl rfl hn (fun z=>Vr.len z) ?_ ?_
 ·intro k z hz hdr htk hlt hI hlt2 hix hwu
  rw [twV_round hdr htk] at hI
  have htk2:(l.take (k+1)).map Vr.name=(l.take k).map Vr.name++[z.name]:=by rw [htk,List.map_append];rfl
  cases hs:((l.take k).map Vr.name).any fun y=>y==z.name with
  | true =>
   rw [hs,if_pos rfl] at hI
   have ho:=once_yes hs
   have hv:varsF l=some (7,z.at_):=by unfold varsF;rw [hI];rfl
   rw [hv]
   unfold ckAt
   replace fx:=And.intro hlt2 (And.intro hix (And.intro hwu trivial))
   repeat' (first|refine stp [0,1,4,5,7,9,10,11,12,19] ?_|(refine RS.sE ?_;refine rnx ?_)|(refine RS.mM ?_;refine rnx ?_)|(refine RS.lC ?_;refine rnx ?_)|(refine RS.xC ?_;refine rnx ?_)|(refine RS.cM [3] (hp:=by exact ho) (h:=?_);refine rnx ?_)|(refine RS.cM [0,1,2] (hp:=by exact ptBadC p _ _ _ _ _ _) (h:=?_);refine rnx ?_)|refine WP.cn (fun hc=>?_) (fun hc=>?_)|fail)
   exact retM1 ⟨rfl,_,rfl⟩
  | false =>
   rw [hs,if_neg Bool.false_ne_true] at hI
   have ho:=once_no hs
   rw [←htk2] at ho
   unfold ckAt
   replace fx:=And.intro hlt2 (And.intro hix (And.intro hwu trivial))
   repeat' (first|refine stp [0,1,4,5,7,9,10,11,12,19] ?_|(refine RS.sE ?_;refine rnx ?_)|(refine RS.mM ?_;refine rnx ?_)|(refine RS.lC ?_;refine rnx ?_)|(refine RS.xC ?_;refine rnx ?_)|(refine RS.cM [3] (hp:=by exact ho) (h:=?_);refine rnx ?_)|refine WP.cn (fun hc=>?_) (fun hc=>?_)|fail)
   exact⟨hI,_,by simp only [Agree,go_sem,simprocAttr],rfl,rfl,by simp only [go_sem,simprocAttr,hr3]⟩
 ·intro hI hlt2
  rw [List.drop_length,twV] at hI
  have hv:varsF l=none:=by unfold varsF;rw [hI];rfl
  rw [hv]
  unfold ckAt
  replace fx:=And.intro hlt2 trivial
  repeat' (first|refine stp [0,1,4,5,7,9,10,11,12,19] ?_|(refine RS.sE ?_;refine rnx ?_)|(refine RS.mM ?_;refine rnx ?_)|(refine RS.lC ?_;refine rnx ?_)|(refine RS.xC ?_;refine rnx ?_)|refine WP.cn (fun hc=>?_) (fun hc=>?_)|fail)
  exact retM1 ⟨rfl,_,rfl⟩
end Go.Proofs.YtibdalkdgjghoaaDoor
namespace Go.Proofs.YtibdalkdgjghoaaDoor
open Go.RowKit
theorem methF_round {l:List Me} {k:Nat} {z:Me} (hd:l.drop k=z::l.drop (k+1)) (ht:l.take (k+1)=l.take k++[z]):methF ((l.take k).map Me.name) (l.drop k)=if (((l.take k).map Me.name).any fun y=>y==z.name)=true then some (7,z.at_) else match varsF (z.params++z.locals) with
  | some f=>some f
  | none=>methF ((l.take (k+1)).map Me.name) (l.drop (k+1)):=by
 rw [hd,methF,ht,List.map_append];rfl
theorem ptMethods (p:List Cs) (A1 A2:List (List UInt8×Int)) (l:List Me) (hn:sumOf Me.sz l≤2097152):DM Tryd.prog 19 [.a (.ptr 0 0),.a (.sl (l.map Me.at))] [.cell (ckAt p 0 0),.map .str false (mpS A1),.map .str false (mpS A2)] (.a (.v (.bool (isOk (methF [] l))))) [.cell (ckAt p (fOf (methF [] l)).1 (fOf (methF [] l)).2),.map .str false (mpS A1),.map .str false (mpS A2)]:=by
 have hll:=sumOf_len Me.sz_pos l
 unfold ckAt
 refine DM.intro Tryd.func19 rfl Tryd.ntmps19 rfl rfl rfl (by simp only [go_sem,simprocAttr]) (fun V0 Kb Nx=>?_)
 have fx:=trivial
 repeat' (first|refine stp [0,1,4,5,7,9,10,11,12,19,28] ?_|(refine RS.sE ?_;refine rnx ?_)|(refine RS.mM ?_;refine rnx ?_)|(refine RS.lC ?_;refine rnx ?_)|(refine RS.xC ?_;refine rnx ?_)|refine WP.cn (fun hc=>?_) (fun hc=>?_)|fail)
 refine WP.each l Me.at 17 (fun k=>[(0,.a (.ptr 0 0)),(5,.a (.mp 3)),(9,.a (.sl (l.map Me.at))),(10,.a (.v (.int .i64 (l.length:Nat)))),(11,.a (.v (.int .i64 (k:Nat))))]) (fun k=>[.cell (ckAt p 0 0),.map .str false (mpS A1),.map .str false (mpS A2),.map .str false (mpS (ones ((l.take k).map Me.name)))]) (fun k=>methF [] l=methF ((l.take k).map Me.name) (l.drop k)) (by simp only [Agree,go_sem,simprocAttr];first|done|rfl) rfl rfl (by omega) (fun z=>Me.len z) ?_ ?_
 ·intro k z hz hdr htk hlt hI hlt2 hix hwu
  rw [methF_round hdr htk] at hI
  have htk2:(l.take (k+1)).map Me.name=(l.take k).map Me.name++[z.name]:=by rw [htk,List.map_append];rfl
  have hzs:z.sz≤2097152:=by have:=sumOf_mem (f:=Me.sz) (List.mem_of_getElem? hz);omega
  obtain⟨y1,y2,y3,y4,y5,y6⟩:=Me.szH hzs
  cases hs:((l.take k).map Me.name).any fun y=>y==z.name with
  | true =>
   rw [hs,if_pos rfl] at hI
   have ho:=once_yes hs
   rw [hI]
   unfold ckAt
   replace fx:=And.intro hlt2 (And.intro hix (And.intro hwu trivial))
   repeat' (first|refine stp [0,1,4,5,7,9,10,11,12,19,28] ?_|(refine RS.sE ?_;refine rnx ?_)|(refine RS.mM ?_;refine rnx ?_)|(refine RS.lC ?_;refine rnx ?_)|(refine RS.xC ?_;refine rnx ?_)|(refine RS.cM [3] (hp:=by exact ho) (h:=?_);refine rnx ?_)|(refine RS.cM [0,1,2] (hp:=by exact ptBadC p _ _ _ _ _ _) (h:=?_);refine rnx ?_)|refine WP.cn (fun hc=>?_) (fun hc=>?_)|fail)
   exact retM1 ⟨rfl,_,rfl⟩
  | false =>
   rw [hs,if_neg Bool.false_ne_true] at hI
   have ho:=once_no hs
   rw [←htk2] at ho
   have hva:=pVarsA z (by omega) (by omega)
   have hvs:=ptVars p A1 A2 (z.params++z.locals) (by rw [List.length_append];omega)
   cases hv:varsF (z.params++z.locals) with
   | some f =>
    rw [hv] at hI hvs
    rw [hI]
    unfold ckAt
    replace fx:=And.intro hlt2 (And.intro hix (And.intro hwu trivial))
    repeat' (first|refine stp [0,1,4,5,7,9,10,11,12,19,28] ?_|(refine RS.sE ?_;refine rnx ?_)|(refine RS.mM ?_;refine rnx ?_)|(refine RS.lC ?_;refine rnx ?_)|(refine RS.xC ?_;refine rnx ?_)|(refine stc (r1:=by exact hva) (r2:=?_);refine rnx ?_)|(refine RS.cM [3] (hp:=by exact ho) (h:=?_);refine rnx ?_)|(refine RS.cM [0,1,2] (hp:=by exact hvs) (h:=?_);refine rnx ?_)|refine WP.cn (fun hc=>?_) (fun hc=>?_)|fail)
    exact retM1 ⟨rfl,_,rfl⟩
   | none =>
    rw [hv] at hI hvs
    unfold ckAt
    replace fx:=And.intro hlt2 (And.intro hix (And.intro hwu trivial))
    repeat' (first|refine stp [0,1,4,5,7,9,10,11,12,19,28] ?_|(refine RS.sE ?_;refine rnx ?_)|(refine RS.mM ?_;refine rnx ?_)|(refine RS.lC ?_;refine rnx ?_)|(refine RS.xC ?_;refine rnx ?_)|(refine stc (r1:=by exact hva) (r2:=?_);refine rnx ?_)|(refine RS.cM [3] (hp:=by exact ho) (h:=?_);refine rnx ?_)|(refine RS.cM [0,1,2] (hp:=by exact hvs) (h:=?_);refine rnx ?_)|refine WP.cn (fun hc=>?_) (fun hc=>?_)|fail)
    exact⟨hI,_,by simp only [Agree,go_sem,simprocAttr],rfl,rfl,by simp only [go_sem,simprocAttr]⟩
 ·intro hI hlt2
  rw [List.drop_length,methF] at hI
  rw [hI]
  unfold ckAt
  replace fx:=And.intro hlt2 trivial
  repeat' (first|refine stp [0,1,4,5,7,9,10,11,12,19,28] ?_|(refine RS.sE ?_;refine rnx ?_)|(refine RS.mM ?_;refine rnx ?_)|(refine RS.lC ?_;refine rnx ?_)|(refine RS.xC ?_;refine rnx ?_)|refine WP.cn (fun hc=>?_) (fun hc=>?_)|fail)
  exact retM1 ⟨rfl,_,rfl⟩
def AOk (p:List Cs) (A1:List (List UInt8×Int)):Prop:=∀s,(arityI p s<0→hasI A1 s=false)∧(0≤arityI p s→hasI A1 s=true∧lkI A1 s=arityI p s)
theorem typF_round {p:List Cs} {l:List Nt} {k:Nat} {t:Nt} (hd:l.drop k=t::l.drop (k+1)):typF p (l.drop k)=if (t.t.kind==2)=false then typF p (l.drop (k+1)) else if arityI p t.t.cls<0 then some (8,t.a) else if (t.t.n != 0&&t.t.n != arityI p t.t.cls)=true then some (10,t.a) else typF p (l.drop (k+1)):=by
 rw [hd,typF];rfl
theorem ptTypes (p:List Cs) (A1 A2:List (List UInt8×Int)) (c:Cs) (hA:AOk p A1) (hT:DPure Tryd.prog 33 [.a (.sl ([c].map Cs.at))] (.a (.sl ((typesL [c]).map Nt.at)))) (hn:(typesL [c]).length≤4194304):DM Tryd.prog 17 [.a (.ptr 0 0),.r (Cs.at c)] [.cell (ckAt p 0 0),.map .str false (mpS A1),.map .str false (mpS A2)] (.a (.v (.bool (isOk (typF p (typesL [c])))))) [.cell (ckAt p (fOf (typF p (typesL [c]))).1 (fOf (typF p (typesL [c]))).2),.map .str false (mpS A1),.map .str false (mpS A2)]:=by
 generalize typesL [c]=l at hT hn ⊢
 replace hT:DPure Tryd.prog 33 [.a (.sl [Cs.at c])] (.a (.sl (l.map Nt.at))):=hT
 unfold ckAt
 refine DM.intro Tryd.func17 rfl Tryd.ntmps17 rfl rfl rfl (by simp only [go_sem,simprocAttr]) (fun V0 Kb Nx=>?_)
 have fx:=trivial
 have hnz:=Nt.z0
 repeat' (first|refine stp [0,1,3,4,6,7,8,11,12,13,14,20,32,39] ?_|(refine RS.ls ?_;refine rnx ?_)|(refine RS.sE ?_;refine rnx ?_)|(refine RS.lk ?_;refine rnx ?_)|(refine RS.pk ?_;refine rnx ?_)|(refine RS.gF ?_;refine rnx ?_)|(refine RS.lC ?_;refine rnx ?_)|(refine RS.xC ?_;refine rnx ?_)|(refine RS.bC ?_;refine rnx ?_)|(refine stc (r1:=by exact hT) (r2:=?_);refine rnx ?_)|refine WP.cn (fun hc=>?_) (fun hc=>?_)|(refine RQ.lk ?_;refine rnx ?_)|((first|refine WP.dw (id:=5) 13 [0,1,3,4,6,7,8,11,12,13,14,20,32,39] ?_);simp only [RQr_mk,List.drop_succ_cons,List.drop_zero,List.drop_nil])|fail)
 refine WP.each l Nt.at 15 (fun k=>[(0,.a (.ptr 0 0)),(11,.a (.sl (l.map Nt.at))),(12,.a (.v (.int .i64 (l.length:Nat)))),(13,.a (.v (.int .i64 (k:Nat))))]) (fun k=>[.cell (ckAt p 0 0),.map .str false (mpS A1),.map .str false (mpS A2),.cell (Cs.at c)]) (fun k=>typF p l=typF p (l.drop k)) (by simp only [Agree,go_sem,simprocAttr];first|done|rfl) rfl rfl hn (fun z=>Nt.len z) ?_ ?_
 ·intro k t hz hdr htk hlt hI hlt2 hix hwu
  rw [typF_round hdr] at hI
  have hval:=mpS_val A1 t.t.cls
  have hhas:=mpS_has A1 t.t.cls
  obtain⟨a1,a2⟩:=hA t.t.cls
  cases hk:t.t.kind==2 with
  | false =>
   rw [hk,if_pos rfl] at hI
   have hk2:(t.t.kind != 2)=true:=by rw [bne,hk];rfl
   unfold ckAt
   replace fx:=And.intro hlt2 (And.intro hix (And.intro hwu (And.intro hnz (And.intro hk2 trivial))))
   repeat' (first|refine stp [0,1,3,4,6,7,8,11,12,13,14,20,32,39] ?_|(refine RS.ls ?_;refine rnx ?_)|(refine RS.sE ?_;refine rnx ?_)|(refine RS.lk ?_;refine rnx ?_)|(refine RS.pk ?_;refine rnx ?_)|(refine RS.gF ?_;refine rnx ?_)|(refine RS.lC ?_;refine rnx ?_)|(refine RS.xC ?_;refine rnx ?_)|(refine RS.bC ?_;refine rnx ?_)|refine WP.cn (fun hc=>?_) (fun hc=>?_)|(refine RQ.lk ?_;refine rnx ?_)|((first|refine WP.dw (id:=5) 13 [0,1,3,4,6,7,8,11,12,13,14,20,32,39] ?_);simp only [RQr_mk,List.drop_succ_cons,List.drop_zero,List.drop_nil])|fail)
   exact⟨hI,_,by simp only [Agree,go_sem,simprocAttr],rfl,rfl,by simp only [go_sem,simprocAttr]⟩
  | true =>
   rw [hk,if_neg (by simp)] at hI
   have hk2:(t.t.kind != 2)=false:=by rw [bne,hk];rfl
   by_cases ha:arityI p t.t.cls<0
   ·rw [if_pos ha] at hI
    have h1:=a1 ha
    rw [hI]
    unfold ckAt
    replace fx:=And.intro hlt2 (And.intro hix (And.intro hwu (And.intro hnz (And.intro hk2 (And.intro hval (And.intro hhas (And.intro h1 trivial)))))))
    repeat' (first|refine stp [0,1,3,4,6,7,8,11,12,13,14,20,32,39] ?_|(refine RS.ls ?_;refine rnx ?_)|(refine RS.sE ?_;refine rnx ?_)|(refine RS.lk ?_;refine rnx ?_)|(refine RS.pk ?_;refine rnx ?_)|(refine RS.gF ?_;refine rnx ?_)|(refine RS.lC ?_;refine rnx ?_)|(refine RS.xC ?_;refine rnx ?_)|(refine RS.bC ?_;refine rnx ?_)|(refine RS.cM [0,1,2] (hp:=by exact ptBadC p _ _ _ _ _ _) (h:=?_);refine rnx ?_)|refine WP.cn (fun hc=>?_) (fun hc=>?_)|(refine RQ.lk ?_;refine rnx ?_)|((first|refine WP.dw (id:=5) 13 [0,1,3,4,6,7,8,11,12,13,14,20,32,39] ?_);simp only [RQr_mk,List.drop_succ_cons,List.drop_zero,List.drop_nil])|fail)
    exact retM1 ⟨rfl,_,rfl⟩
   ·rw [if_neg ha] at hI
    obtain⟨h1,h2⟩:=a2 (by omega)
    cases hb:(t.t.n != 0&&t.t.n != arityI p t.t.cls) with
    | true =>
     rw [hb,if_pos rfl] at hI
     rw [Bool.and_eq_true] at hb
     obtain⟨hb1,hb2⟩:=hb
     rw [hI]
     unfold ckAt
     replace fx:=And.intro hlt2 (And.intro hix (And.intro hwu (And.intro hnz (And.intro hk2 (And.intro hval (And.intro hhas (And.intro h1 (And.intro h2 (And.intro hb1 (And.intro hb2 trivial))))))))))
     repeat' (first|refine stp [0,1,3,4,6,7,8,11,12,13,14,20,32,39] ?_|(refine RS.ls ?_;refine rnx ?_)|(refine RS.sE ?_;refine rnx ?_)|(refine RS.lk ?_;refine rnx ?_)|(refine RS.pk ?_;refine rnx ?_)|(refine RS.gF ?_;refine rnx ?_)|(refine RS.lC ?_;refine rnx ?_)|(refine RS.xC ?_;refine rnx ?_)|(refine RS.bC ?_;refine rnx ?_)|(refine RS.cM [0,1,2] (hp:=by exact ptBadC p _ _ _ _ _ _) (h:=?_);refine rnx ?_)|refine WP.cn (fun hc=>?_) (fun hc=>?_)|(refine RQ.lk ?_;refine rnx ?_)|((first|refine WP.dw (id:=5) 13 [0,1,3,4,6,7,8,11,12,13,14,20,32,39] ?_);simp only [RQr_mk,List.drop_succ_cons,List.drop_zero,List.drop_nil])|fail)
     exact retM1 ⟨rfl,_,rfl⟩
    | false =>
     rw [hb,if_neg Bool.false_ne_true] at hI
     cases hb1:t.t.n != 0 with
     | false =>
      unfold ckAt
      replace fx:=And.intro hlt2 (And.intro hix (And.intro hwu (And.intro hnz (And.intro hk2 (And.intro hval (And.intro hhas (And.intro h1 (And.intro h2 (And.intro hb1 trivial)))))))))
      repeat' (first|refine stp [0,1,3,4,6,7,8,11,12,13,14,20,32,39] ?_|(refine RS.ls ?_;refine rnx ?_)|(refine RS.sE ?_;refine rnx ?_)|(refine RS.lk ?_;refine rnx ?_)|(refine RS.pk ?_;refine rnx ?_)|(refine RS.gF ?_;refine rnx ?_)|(refine RS.lC ?_;refine rnx ?_)|(refine RS.xC ?_;refine rnx ?_)|(refine RS.bC ?_;refine rnx ?_)|refine WP.cn (fun hc=>?_) (fun hc=>?_)|(refine RQ.lk ?_;refine rnx ?_)|((first|refine WP.dw (id:=5) 13 [0,1,3,4,6,7,8,11,12,13,14,20,32,39] ?_);simp only [RQr_mk,List.drop_succ_cons,List.drop_zero,List.drop_nil])|fail)
      exact⟨hI,_,by simp only [Agree,go_sem,simprocAttr],rfl,rfl,by simp only [go_sem,simprocAttr]⟩
     | true =>
      rw [hb1,Bool.true_and] at hb
      unfold ckAt
      replace fx:=And.intro hlt2 (And.intro hix (And.intro hwu (And.intro hnz (And.intro hk2 (And.intro hval (And.intro hhas (And.intro h1 (And.intro h2 (And.intro hb1 (And.intro hb trivial))))))))))
      repeat' (first|refine stp [0,1,3,4,6,7,8,11,12,13,14,20,32,39] ?_|(refine RS.ls ?_;refine rnx ?_)|(refine RS.sE ?_;refine rnx ?_)|(refine RS.lk ?_;refine rnx ?_)|(refine RS.pk ?_;refine rnx ?_)|(refine RS.gF ?_;refine rnx ?_)|(refine RS.lC ?_;refine rnx ?_)|(refine RS.xC ?_;refine rnx ?_)|(refine RS.bC ?_;refine rnx ?_)|refine WP.cn (fun hc=>?_) (fun hc=>?_)|(refine RQ.lk ?_;refine rnx ?_)|((first|refine WP.dw (id:=5) 13 [0,1,3,4,6,7,8,11,12,13,14,20,32,39] ?_);simp only [RQr_mk,List.drop_succ_cons,List.drop_zero,List.drop_nil])|fail)
      exact⟨hI,_,by simp only [Agree,go_sem,simprocAttr],rfl,rfl,by simp only [go_sem,simprocAttr]⟩
 ·intro hI hlt2
  rw [List.drop_length,typF] at hI
  rw [hI]
  unfold ckAt
  replace fx:=And.intro hlt2 trivial
  repeat' (first|refine stp [0,1,3,4,6,7,8,11,12,13,14,20,32,39] ?_|(refine RS.ls ?_;refine rnx ?_)|(refine RS.sE ?_;refine rnx ?_)|(refine RS.lk ?_;refine rnx ?_)|(refine RS.pk ?_;refine rnx ?_)|(refine RS.gF ?_;refine rnx ?_)|(refine RS.lC ?_;refine rnx ?_)|(refine RS.xC ?_;refine rnx ?_)|(refine RS.bC ?_;refine rnx ?_)|refine WP.cn (fun hc=>?_) (fun hc=>?_)|(refine RQ.lk ?_;refine rnx ?_)|((first|refine WP.dw (id:=5) 13 [0,1,3,4,6,7,8,11,12,13,14,20,32,39] ?_);simp only [RQr_mk,List.drop_succ_cons,List.drop_zero,List.drop_nil])|fail)
  exact retM1 ⟨rfl,_,rfl⟩
end Go.Proofs.YtibdalkdgjghoaaDoor
namespace Go.Proofs.YtibdalkdgjghoaaDoor
open Go.RowKit
theorem lk_put:∀(L:List (List UInt8×Int)) (s:List UInt8) (v:Int),lkI (putI L s v) s=v
 | [],s,v=>by unfold lkI;rw [putI,List.find?_cons];simp
 | p::r,s,v=>by
  have ih:=lk_put r s v
  unfold lkI at ih ⊢
  rw [putI]
  split
  ·rename_i h;rw [List.find?_cons];dsimp only;rw [h];rfl
  ·rename_i h;rw [List.find?_cons]
   simp only [Bool.not_eq_true] at h
   rw [h];exact ih
theorem fdupS_round {l:List (List UInt8)} {k:Nat} {z:List UInt8} (hd:l.drop k=z::l.drop (k+1)) (ht:l.take (k+1)=l.take k++[z]):fdup (l.take k) (l.drop k) k=if ((l.take k).any fun y=>y==z)=true then (k:Int) else fdup (l.take (k+1)) (l.drop (k+1)) (k+1):=by
 rw [hd,fdup,ht]
def metV (met:List (List UInt8)) (s:List UInt8):Int:=if (met.any fun y=>y==s)=true then 2 else 1
theorem ptHead (p:List Cs) (A1:List (List UInt8×Int)) (met:List (List UInt8)) (c:Cs) (hA:AOk p A1) (hc:c.sz≤2097152):DM Tryd.prog 16 [.a (.ptr 0 0),.r (Cs.at c)] [.cell (ckAt p 0 0),.map .str false (mpS A1),.map .str false (mpS (ones met))] (.a (.v (.bool (isOk (headF p met c))))) [.cell (ckAt p (fOf (headF p met c)).1 (fOf (headF p met c)).2),.map .str false (mpS A1),.map .str false (mpS (putI (ones met) c.name (metV met c.name)))]:=by
 obtain⟨y1,y2,y3,y4,y5,y6,y7,y8,y9⟩:=Cs.szH hc
 obtain⟨x,v,hv0,hx,hw,hb⟩:∃x v:Int,metV met c.name=v∧lkI (ones met) c.name=x∧IntKind.i64.wrap (x+1)=v∧decide (v>1)=met.any fun y=>y==c.name:=by
  unfold metV
  rw [lk_ones]
  cases met.any fun y=>y==c.name<;>exact⟨_,_,rfl,rfl,rfl,rfl⟩
 rw [hv0]
 have hval:=mpS_val (ones met) c.name
 rw [hx] at hval
 have hput:=mpS_put (ones met) c.name v
 have hval2:=mpS_val (putI (ones met) c.name v) c.name
 rw [lk_put] at hval2
 have hval3:=mpS_val A1 c.super
 have hhas3:=mpS_has A1 c.super
 obtain⟨a1,a2⟩:=hA c.super
 generalize putI (ones met) c.name v=M2 at hput hval2 ⊢
 unfold ckAt
 refine DM.intro Tryd.func16 rfl Tryd.ntmps16 rfl rfl rfl (by simp only [go_sem,simprocAttr]) (fun V0 Kb Nx=>?_)
 have fx:=trivial
 replace fx:=And.intro hval (And.intro hw (And.intro hput trivial))
 repeat' (first|refine stp [0,1,3,4,5,7,8,9,20,21,22,23,29,42,49,60,67] ?_|(refine RS.mU ?_;refine rnx ?_)|(refine RS.mM ?_;refine rnx ?_)|(refine RS.lk ?_;refine rnx ?_)|(refine RS.lC ?_;refine rnx ?_)|(refine RS.xC ?_;refine rnx ?_)|refine WP.cn (fun hc=>?_) (fun hc=>?_)|(refine RQ.lk ?_;refine rnx ?_)|((first|refine WP.dw (id:=1) 8 [0,1,3,4,5,7,8,9,20,21,22,23,29,42,49,60,67] ?_|refine WP.dw (id:=9) 8 [0,1,3,4,5,7,8,9,20,21,22,23,29,42,49,60,67] ?_|refine WP.dw (id:=13) 12 [0,1,3,4,5,7,8,9,20,21,22,23,29,42,49,60,67] ?_);simp only [RQr_mk,List.drop_succ_cons,List.drop_zero,List.drop_nil])|fail)
 refine WP.each c.params strAt 1 (fun k=>[(0,.a (.ptr 0 0)),(3,.a (.ptr 3 0)),(5,.a (.mp 4)),(20,.a (.sl (c.params.map strAt))),(21,.a (.v (.int .i64 (c.params.length:Nat)))),(22,.a (.v (.int .i64 (k:Nat))))]) (fun k=>[.cell (ckAt p 0 0),.map .str false (mpS A1),.map .str false (mpS M2),.cell (Cs.at c),.map .str false (mpS (ones (c.params.take k)))]) (fun k=>fdup [] c.params 0=fdup (c.params.take k) (c.params.drop k) k) (by simp only [Agree,go_sem,simprocAttr];first|done|rfl) rfl rfl (by omega) (fun _=>rfl) ?_ ?_
 ·intro k z hz hdr htk hlt hI hlt2 hix hwu
  rw [fdupS_round hdr htk] at hI
  cases hs:(c.params.take k).any fun y=>y==z with
  | true =>
   rw [hs,if_pos rfl] at hI
   have ho:=once_yes hs
   have hf:headF p met c=some (7,c.at_):=by unfold headF dupB;rw [hI,if_pos (decide_eq_true (by omega))];rfl
   rw [hf]
   unfold ckAt
   replace fx:=And.intro hlt2 (And.intro hix (And.intro hwu trivial))
   repeat' (first|refine stp [0,1,3,4,5,7,8,9,20,21,22,23,29,42,49,60,67] ?_|(refine RS.mU ?_;refine rnx ?_)|(refine RS.mM ?_;refine rnx ?_)|(refine RS.lk ?_;refine rnx ?_)|(refine RS.lC ?_;refine rnx ?_)|(refine RS.xC ?_;refine rnx ?_)|(refine RS.cM [4] (hp:=by exact ho) (h:=?_);refine rnx ?_)|(refine RS.gM [4] (hp:=by exact ho) (h:=?_);refine rnx ?_)|(refine RS.cM [0,1,2] (hp:=by exact ptBadC p _ _ _ _ _ _) (h:=?_);refine rnx ?_)|(refine RS.gM [0,1,2] (hp:=by exact ptBadC p _ _ _ _ _ _) (h:=?_);refine rnx ?_)|refine WP.cn (fun hc=>?_) (fun hc=>?_)|(refine RQ.lk ?_;refine rnx ?_)|((first|refine WP.dw (id:=1) 8 [0,1,3,4,5,7,8,9,20,21,22,23,29,42,49,60,67] ?_|refine WP.dw (id:=9) 8 [0,1,3,4,5,7,8,9,20,21,22,23,29,42,49,60,67] ?_|refine WP.dw (id:=13) 12 [0,1,3,4,5,7,8,9,20,21,22,23,29,42,49,60,67] ?_);simp only [RQr_mk,List.drop_succ_cons,List.drop_zero,List.drop_nil])|fail)
   exact retM1 ⟨rfl,_,rfl⟩
  | false =>
   rw [hs,if_neg Bool.false_ne_true] at hI
   have ho:=once_no hs
   rw [←htk] at ho
   unfold ckAt
   replace fx:=And.intro hlt2 (And.intro hix (And.intro hwu trivial))
   repeat' (first|refine stp [0,1,3,4,5,7,8,9,20,21,22,23,29,42,49,60,67] ?_|(refine RS.mU ?_;refine rnx ?_)|(refine RS.mM ?_;refine rnx ?_)|(refine RS.lk ?_;refine rnx ?_)|(refine RS.lC ?_;refine rnx ?_)|(refine RS.xC ?_;refine rnx ?_)|(refine RS.cM [4] (hp:=by exact ho) (h:=?_);refine rnx ?_)|(refine RS.gM [4] (hp:=by exact ho) (h:=?_);refine rnx ?_)|refine WP.cn (fun hc=>?_) (fun hc=>?_)|(refine RQ.lk ?_;refine rnx ?_)|((first|refine WP.dw (id:=1) 8 [0,1,3,4,5,7,8,9,20,21,22,23,29,42,49,60,67] ?_|refine WP.dw (id:=9) 8 [0,1,3,4,5,7,8,9,20,21,22,23,29,42,49,60,67] ?_|refine WP.dw (id:=13) 12 [0,1,3,4,5,7,8,9,20,21,22,23,29,42,49,60,67] ?_);simp only [RQr_mk,List.drop_succ_cons,List.drop_zero,List.drop_nil])|fail)
   exact⟨hI,_,by simp only [Agree,go_sem,simprocAttr],rfl,rfl,by simp only [go_sem,simprocAttr]⟩
 ·intro hI hlt2
  rw [List.drop_length,fdup] at hI
  have hd:dupB c.params=false:=by unfold dupB;rw [hI];rfl
  have hf0:headF p met c=if (met.any fun y=>y==c.name)=true then some (eTwice,c.at_) else if (c.super==[])=true then none
 else if arityI p c.super<0 then some (eClass,c.at_) else if (arityI p c.super != (c.above.length:Int))=true then some (eArity,c.at_) else none:=by unfold headF;rw [hd,if_neg Bool.false_ne_true]
  rw [hf0]
  clear hf0 hI
  cases hm:met.any fun y=>y==c.name with
  | true =>
   rw [hm] at hb
   rw [if_pos rfl]
   unfold ckAt
   replace fx:=And.intro hlt2 (And.intro hval2 (And.intro hb trivial))
   repeat' (first|refine stp [0,1,3,4,5,7,8,9,20,21,22,23,29,42,49,60,67] ?_|(refine RS.mU ?_;refine rnx ?_)|(refine RS.mM ?_;refine rnx ?_)|(refine RS.lk ?_;refine rnx ?_)|(refine RS.lC ?_;refine rnx ?_)|(refine RS.xC ?_;refine rnx ?_)|(refine RS.cM [0,1,2] (hp:=by exact ptBadC p _ _ _ _ _ _) (h:=?_);refine rnx ?_)|(refine RS.gM [0,1,2] (hp:=by exact ptBadC p _ _ _ _ _ _) (h:=?_);refine rnx ?_)|refine WP.cn (fun hc=>?_) (fun hc=>?_)|(refine RQ.lk ?_;refine rnx ?_)|((first|refine WP.dw (id:=1) 8 [0,1,3,4,5,7,8,9,20,21,22,23,29,42,49,60,67] ?_|refine WP.dw (id:=9) 8 [0,1,3,4,5,7,8,9,20,21,22,23,29,42,49,60,67] ?_|refine WP.dw (id:=13) 12 [0,1,3,4,5,7,8,9,20,21,22,23,29,42,49,60,67] ?_);simp only [RQr_mk,List.drop_succ_cons,List.drop_zero,List.drop_nil])|fail)
   exact retM1 ⟨rfl,_,rfl⟩
  | false =>
   rw [hm] at hb
   rw [if_neg Bool.false_ne_true]
   cases hsu:c.super==[] with
   | true =>
    rw [if_pos rfl]
    unfold ckAt
    replace fx:=And.intro hlt2 (And.intro hval2 (And.intro hb (And.intro hsu trivial)))
    repeat' (first|refine stp [0,1,3,4,5,7,8,9,20,21,22,23,29,42,49,60,67] ?_|(refine RS.mU ?_;refine rnx ?_)|(refine RS.mM ?_;refine rnx ?_)|(refine RS.lk ?_;refine rnx ?_)|(refine RS.lC ?_;refine rnx ?_)|(refine RS.xC ?_;refine rnx ?_)|refine WP.cn (fun hc=>?_) (fun hc=>?_)|(refine RQ.lk ?_;refine rnx ?_)|((first|refine WP.dw (id:=1) 8 [0,1,3,4,5,7,8,9,20,21,22,23,29,42,49,60,67] ?_|refine WP.dw (id:=9) 8 [0,1,3,4,5,7,8,9,20,21,22,23,29,42,49,60,67] ?_|refine WP.dw (id:=13) 12 [0,1,3,4,5,7,8,9,20,21,22,23,29,42,49,60,67] ?_);simp only [RQr_mk,List.drop_succ_cons,List.drop_zero,List.drop_nil])|fail)
    exact retM1 ⟨rfl,_,rfl⟩
   | false =>
    rw [if_neg Bool.false_ne_true]
    by_cases ha:arityI p c.super<0
    ·rw [if_pos ha]
     have h1:=a1 ha
     unfold ckAt
     replace fx:=And.intro hlt2 (And.intro hval2 (And.intro hb (And.intro hsu (And.intro hval3 (And.intro hhas3 (And.intro h1 trivial))))))
     repeat' (first|refine stp [0,1,3,4,5,7,8,9,20,21,22,23,29,42,49,60,67] ?_|(refine RS.mU ?_;refine rnx ?_)|(refine RS.mM ?_;refine rnx ?_)|(refine RS.lk ?_;refine rnx ?_)|(refine RS.lC ?_;refine rnx ?_)|(refine RS.xC ?_;refine rnx ?_)|(refine RS.cM [0,1,2] (hp:=by exact ptBadC p _ _ _ _ _ _) (h:=?_);refine rnx ?_)|(refine RS.gM [0,1,2] (hp:=by exact ptBadC p _ _ _ _ _ _) (h:=?_);refine rnx ?_)|refine WP.cn (fun hc=>?_) (fun hc=>?_)|(refine RQ.lk ?_;refine rnx ?_)|((first|refine WP.dw (id:=1) 8 [0,1,3,4,5,7,8,9,20,21,22,23,29,42,49,60,67] ?_|refine WP.dw (id:=9) 8 [0,1,3,4,5,7,8,9,20,21,22,23,29,42,49,60,67] ?_|refine WP.dw (id:=13) 12 [0,1,3,4,5,7,8,9,20,21,22,23,29,42,49,60,67] ?_);simp only [RQr_mk,List.drop_succ_cons,List.drop_zero,List.drop_nil])|fail)
     exact retM1 ⟨rfl,_,rfl⟩
    ·rw [if_neg ha]
     obtain⟨h1,h2⟩:=a2 (by omega)
     cases hne:arityI p c.super != (c.above.length:Int) with
     | true =>
      rw [if_pos rfl]
      unfold ckAt
      replace fx:=And.intro hlt2 (And.intro hval2 (And.intro hb (And.intro hsu (And.intro hval3 (And.intro hhas3 (And.intro h1 (And.intro h2 (And.intro hne trivial))))))))
      repeat' (first|refine stp [0,1,3,4,5,7,8,9,20,21,22,23,29,42,49,60,67] ?_|(refine RS.mU ?_;refine rnx ?_)|(refine RS.mM ?_;refine rnx ?_)|(refine RS.lk ?_;refine rnx ?_)|(refine RS.lC ?_;refine rnx ?_)|(refine RS.xC ?_;refine rnx ?_)|(refine RS.cM [0,1,2] (hp:=by exact ptBadC p _ _ _ _ _ _) (h:=?_);refine rnx ?_)|(refine RS.gM [0,1,2] (hp:=by exact ptBadC p _ _ _ _ _ _) (h:=?_);refine rnx ?_)|refine WP.cn (fun hc=>?_) (fun hc=>?_)|(refine RQ.lk ?_;refine rnx ?_)|((first|refine WP.dw (id:=1) 8 [0,1,3,4,5,7,8,9,20,21,22,23,29,42,49,60,67] ?_|refine WP.dw (id:=9) 8 [0,1,3,4,5,7,8,9,20,21,22,23,29,42,49,60,67] ?_|refine WP.dw (id:=13) 12 [0,1,3,4,5,7,8,9,20,21,22,23,29,42,49,60,67] ?_);simp only [RQr_mk,List.drop_succ_cons,List.drop_zero,List.drop_nil])|fail)
      exact retM1 ⟨rfl,_,rfl⟩
     | false =>
      rw [if_neg Bool.false_ne_true]
      unfold ckAt
      replace fx:=And.intro hlt2 (And.intro hval2 (And.intro hb (And.intro hsu (And.intro hval3 (And.intro hhas3 (And.intro h1 (And.intro h2 (And.intro hne trivial))))))))
      repeat' (first|refine stp [0,1,3,4,5,7,8,9,20,21,22,23,29,42,49,60,67] ?_|(refine RS.mU ?_;refine rnx ?_)|(refine RS.mM ?_;refine rnx ?_)|(refine RS.lk ?_;refine rnx ?_)|(refine RS.lC ?_;refine rnx ?_)|(refine RS.xC ?_;refine rnx ?_)|refine WP.cn (fun hc=>?_) (fun hc=>?_)|(refine RQ.lk ?_;refine rnx ?_)|((first|refine WP.dw (id:=1) 8 [0,1,3,4,5,7,8,9,20,21,22,23,29,42,49,60,67] ?_|refine WP.dw (id:=9) 8 [0,1,3,4,5,7,8,9,20,21,22,23,29,42,49,60,67] ?_|refine WP.dw (id:=13) 12 [0,1,3,4,5,7,8,9,20,21,22,23,29,42,49,60,67] ?_);simp only [RQr_mk,List.drop_succ_cons,List.drop_zero,List.drop_nil])|fail)
      exact retM1 ⟨rfl,_,rfl⟩
end Go.Proofs.YtibdalkdgjghoaaDoor
namespace Go.Proofs.YtibdalkdgjghoaaDoor
open Go.RowKit
def arF (l:List Cs):List (List UInt8×Int):=l.foldl (fun A c=>putI A c.name c.params.length) []
theorem arF_snoc (l:List Cs) (c:Cs):arF (l++[c])=putI (arF l) c.name c.params.length:=by unfold arF;rw [List.foldl_append];rfl
theorem has_put:∀(L:List (List UInt8×Int)) (s t:List UInt8) (v:Int),hasI (putI L s v) t=(hasI L t||s==t)
 | [],s,t,v=>by unfold hasI;rw [putI];simp
 | p::r,s,t,v=>by
  have ih:=has_put r s t v
  unfold hasI at ih ⊢
  rw [putI]
  split
  ·rename_i h
   have h:=eq_of_beq h
   rw [List.any_cons,List.any_cons]
   dsimp only
   rw [h]
   cases s==t<;>simp
  ·rw [List.any_cons,List.any_cons,ih,Bool.or_assoc]
theorem lk_put_ne:∀(L:List (List UInt8×Int)) (s t:List UInt8) (v:Int),(s==t)=false→lkI (putI L s v) t=lkI L t
 | [],s,t,v,h=>by unfold lkI;rw [putI,List.find?_cons];dsimp only;rw [h];first|done|rfl
 | p::r,s,t,v,h=>by
  have ih:=lk_put_ne r s t v h
  unfold lkI at ih ⊢
  rw [putI]
  split
  ·rename_i h2
   have h2:=eq_of_beq h2
   rw [List.find?_cons,List.find?_cons]
   dsimp only
   rw [h2,h]
  ·rw [List.find?_cons,List.find?_cons]
   cases p.1==t with
   | true=>rfl
   | false=>exact ih
theorem ixOf_shift {α:Type} (q:α→Bool):∀(l:List α) (k:Nat),ixOf q l (k+1)=if ixOf q l k<0 then -1 else ixOf q l k+1
 | [],k=>by rw [ixOf,ixOf,if_pos (by decide)]
 | x::r,k=>by
  rw [ixOf,ixOf]
  split
  ·rw [if_neg (by omega)];push_cast;rfl
  ·exact ixOf_shift q r (k+1)
theorem arity_cons (c:Cs) (r:List Cs) (s:List UInt8):arityI (c::r) s=if (c.name==s)=true then (c.params.length:Int) else arityI r s:=by
 unfold arityI findI
 rw [ixOf]
 cases h:c.name==s with
 | true =>
  rw [if_pos rfl,if_pos rfl]
  rfl
 | false =>
  rw [if_neg Bool.false_ne_true,if_neg Bool.false_ne_true,ixOf_shift]
  rcases ixOf_get (fun c:Cs=>c.name==s) r 0 with h2|⟨j,z,h1,h2,h3⟩
  ·rw [h2];rfl
  ·rw [h3,Nat.zero_add,if_neg (by omega),if_neg (by omega),if_neg (by omega)]
   rw [show ((j:Int)+1).toNat=j+1 by omega,show (j:Int).toNat=j by omega,List.getElem?_cons_succ]
theorem arity_nil (s:List UInt8):arityI [] s = -1:=rfl
theorem aok_arF:∀p:List Cs,AOk p (arF p.reverse)
 | []=>fun s=>⟨fun _=>rfl,fun h=>by rw [arity_nil] at h;omega⟩
 | c::r=>fun s=>by
  obtain⟨i1,i2⟩:=aok_arF r s
  rw [List.reverse_cons,arF_snoc,arity_cons]
  rw [has_put]
  cases h:c.name==s with
  | true =>
   rw [if_pos rfl]
   refine⟨fun h2=>by omega,fun _=>⟨by simp,?_⟩⟩
   have h:=eq_of_beq h
   rw [h,lk_put]
  | false =>
   rw [if_neg Bool.false_ne_true,Bool.or_false]
   refine⟨i1,fun h2=>⟨(i2 h2).1,?_⟩⟩
   rw [lk_put_ne _ _ _ _ h]
   exact (i2 h2).2
theorem goF_round {p l:List Cs} {k:Nat} {c:Cs} (hd:l.drop k=c::l.drop (k+1)) (ht:l.take (k+1)=l.take k++[c]):goF p ((l.take k).map Cs.name) (l.drop k)=match classF p ((l.take k).map Cs.name) c with
  | some f=>f
  | none=>goF p ((l.take (k+1)).map Cs.name) (l.drop (k+1)):=by
 rw [hd,goF,ht,List.map_append];rfl
theorem spB_len (n:Nt) (l:List (Int×St)):(spB n l).length≤l.length:=by unfold spB;rw [List.length_map];exact List.length_filter_le _ _
theorem spM_len (n:Nt) (m:Me):(spM n m).length≤2*m.sz:=by
 unfold spM
 rw [List.length_cons,List.length_append,List.length_append,spV_len,spV_len]
 have h1:=spB_len n (St.lns 0 m.body)
 have h2:=St.lns_len _ m.body 0 (Nat.le_refl _)
 have h3:=sumOf_len Vr.sz_pos m.params
 have h4:=sumOf_len Vr.sz_pos m.locals
 unfold Me.sz;omega
theorem spMs_len (i:Int):∀(k:Int) (l:List Me),(spMs i k l).length≤2*sumOf Me.sz l
 | k,[]=>Nat.zero_le _
 | k,m::r=>by
  have h1:=spM_len ⟨i,k,0,Ty.zero,0⟩ m
  have h2:=spMs_len i (k+1) r
  rw [spMs,List.length_append,sumOf];omega
theorem spCs_len:∀(i:Int) (p:List Cs),(spCs i p).length≤2*sumOf Cs.sz p
 | i,[]=>Nat.zero_le _
 | i,c::r=>by
  have h1:=spMs_len i 0 c.methods
  have h2:=spCs_len (i+1) r
  have h3:=sumOf_len Vr.sz_pos c.fields
  have h4:c.fields.length+2*sumOf Me.sz c.methods≤2*c.sz:=by unfold Cs.sz;omega
  rw [spCs,spC,List.length_append,List.length_append,spV_len,sumOf]
  omega
theorem typesL_len (p:List Cs):(typesL p).length≤2*sumOf Cs.sz p:=by unfold typesL;rw [List.length_map];exact spCs_len 0 p
theorem ptCheck (p:List Cs) (hz:sumOf Cs.sz p≤2097152):DPure Tryd.prog 5 [.a (.sl (p.map Cs.at))] (.r [.v (.int .i64 (checkF p).1),.v (.int .i64 (checkF p).2)]):=by
 have hpl:p.length≤2097152:=Nat.le_trans (sumOf_len Cs.sz_pos p) hz
 have hri:=pzRight p hz
 unfold checkF
 refine DPure.goV Tryd.func5 rfl Tryd.ntmps5 rfl rfl rfl (fun C hro hCV=>?_)
 have fx:=trivial
 cases hr:rightB p with
 | false =>
  rw [hr] at hri
  rw [if_neg Bool.false_ne_true]
  repeat' (first|refine stp [0,2,3,5,7,10,18,19,20,30,31,32,33,59] ?_|(refine RS.sE ?_;refine rnx ?_)|(refine RS.mU ?_;refine rnx ?_)|(refine RS.mM ?_;refine rnx ?_)|(refine RS.pk ?_;refine rnx ?_)|(refine RS.gF ?_;refine rnx ?_)|(refine RS.lC ?_;refine rnx ?_)|(refine RS.xC ?_;refine rnx ?_)|(refine stc (r1:=by exact hri) (r2:=?_);refine rnx ?_)|refine WP.cn (fun hc=>?_) (fun hc=>?_)|((first|refine WP.dw (id:=6) 9 [0,2,3,5,7,10,18,19,20,30,31,32,33,59] ?_);simp only [RQr_mk,List.drop_succ_cons,List.drop_zero,List.drop_nil])|fail)
  rfl
 | true =>
  rw [hr] at hri
  rw [if_pos rfl]
  repeat' (first|refine stp [0,2,3,5,7,10,18,19,20,30,31,32,33,59] ?_|(refine RS.sE ?_;refine rnx ?_)|(refine RS.mU ?_;refine rnx ?_)|(refine RS.mM ?_;refine rnx ?_)|(refine RS.pk ?_;refine rnx ?_)|(refine RS.gF ?_;refine rnx ?_)|(refine RS.lC ?_;refine rnx ?_)|(refine RS.xC ?_;refine rnx ?_)|(refine stc (r1:=by first|exact hri|exact pBwdC p) (r2:=?_);refine rnx ?_)|refine WP.cn (fun hc=>?_) (fun hc=>?_)|((first|refine WP.dw (id:=6) 9 [0,2,3,5,7,10,18,19,20,30,31,32,33,59] ?_);simp only [RQr_mk,List.drop_succ_cons,List.drop_zero,List.drop_nil])|fail)
  refine WP.range2 [(0,.a (.sl (p.map Cs.at))),(2,.a (.ptr 0 0)),(3,.a (.ptr 4 0))] (fun k=>[.cell [.v (.int .i64 0),.v (.int .i64 0)],.map .str false (mpS (arF (p.reverse.take k))),.map .str false (mpS []),.cell [.sl (p.map Cs.at),.mp 1,.mp 2,.v (.int .i64 0),.v (.int .i64 0)],.cell [.ptr 3 0]]) [] (bwdL Cs.at p) (fun _=>.junk) (fun _=>True) trivial hro (by simp only [go_sem,simprocAttr]) rfl ?_ rfl (.inl rfl) (.inl rfl) rfl rfl (by rw [hCV];exact Nat.zero_le _) (fun _=>Nat.le_refl _) (fun k=>by simp only [go_sem,simprocAttr]) rfl (by simp only [go_sem,simprocAttr]<;>rfl) rfl rfl (pBwdC1 p hpl).toM (.inl rfl) rfl (fun k xs hx=>?_) (fun C1 k xs hC1 hon1 hx _=>?_) (fun _=>?_)
  ·simp only [Agree,go_sem,simprocAttr]
  ·obtain⟨z,_,rfl⟩:=bwdL_get hx;rfl
  ·obtain⟨z,hzk,rfl⟩:=bwdL_get hx
   have hput:=mpS_put (arF (p.reverse.take k)) z.name z.params.length
   have hnx:arF (p.reverse.take (k+1))=putI (arF (p.reverse.take k)) z.name z.params.length:=by rw [take_snocA hzk,arF_snoc]
   rw [hnx]
   generalize arF (p.reverse.take k)=A at hput ⊢
   generalize putI A z.name z.params.length=B at hput ⊢
   simp only [bindE_2]
   replace fx:=And.intro hput trivial
   repeat' (first|refine stp [0,2,3,5,7,10,18,19,20,30,31,32,33,59] ?_|(refine RS.sE ?_;refine rnx ?_)|(refine RS.mU ?_;refine rnx ?_)|(refine RS.mM ?_;refine rnx ?_)|(refine RS.pk ?_;refine rnx ?_)|(refine RS.gF ?_;refine rnx ?_)|(refine RS.lC ?_;refine rnx ?_)|(refine RS.xC ?_;refine rnx ?_)|refine WP.cn (fun hc=>?_) (fun hc=>?_)|((first|refine WP.dw (id:=6) 9 [0,2,3,5,7,10,18,19,20,30,31,32,33,59] ?_);simp only [RQr_mk,List.drop_succ_cons,List.drop_zero,List.drop_nil])|fail)
   intro C2 _ _
   replace fx:=And.intro hput trivial
   repeat' (first|refine stp [0,2,3,5,7,10,18,19,20,30,31,32,33,59] ?_|(refine RS.sE ?_;refine rnx ?_)|(refine RS.mU ?_;refine rnx ?_)|(refine RS.mM ?_;refine rnx ?_)|(refine RS.pk ?_;refine rnx ?_)|(refine RS.gF ?_;refine rnx ?_)|(refine RS.lC ?_;refine rnx ?_)|(refine RS.xC ?_;refine rnx ?_)|refine WP.cn (fun hc=>?_) (fun hc=>?_)|((first|refine WP.dw (id:=6) 9 [0,2,3,5,7,10,18,19,20,30,31,32,33,59] ?_);simp only [RQr_mk,List.drop_succ_cons,List.drop_zero,List.drop_nil])|fail)
   exact⟨trivial,by simp only [go_sem,simprocAttr],_,rfl⟩
  ·have hbl:(bwdL Cs.at p).length=p.reverse.length:=by simp [bwdL]
   have hA:=aok_arF p
   rw [hbl,List.take_length]
   generalize arF p.reverse=A at hA ⊢
   repeat' (first|refine stp [0,2,3,5,7,10,18,19,20,30,31,32,33,59] ?_|(refine RS.sE ?_;refine rnx ?_)|(refine RS.mU ?_;refine rnx ?_)|(refine RS.mM ?_;refine rnx ?_)|(refine RS.pk ?_;refine rnx ?_)|(refine RS.gF ?_;refine rnx ?_)|(refine RS.lC ?_;refine rnx ?_)|(refine RS.xC ?_;refine rnx ?_)|refine WP.cn (fun hc=>?_) (fun hc=>?_)|((first|refine WP.dw (id:=6) 9 [0,2,3,5,7,10,18,19,20,30,31,32,33,59] ?_);simp only [RQr_mk,List.drop_succ_cons,List.drop_zero,List.drop_nil])|fail)
   refine WP.each p Cs.at 7 (fun k=>[(2,.a (.ptr 0 0)),(3,.a (.ptr 4 0)),(30,.a (.sl (p.map Cs.at))),(31,.a (.v (.int .i64 (p.length:Nat)))),(32,.a (.v (.int .i64 (k:Nat))))]) (fun k=>[.cell [.v (.int .i64 0),.v (.int .i64 0)],.map .str false (mpS A),.map .str false (mpS (ones ((p.take k).map Cs.name))),.cell (ckAt p 0 0),.cell [.ptr 3 0]]) (fun k=>goF p [] p=goF p ((p.take k).map Cs.name) (p.drop k)) (by simp only [Agree,go_sem,simprocAttr];first|done|rfl) rfl rfl (by omega) (fun z=>Cs.len z) ?_ ?_
   ·intro k c hc hdr htk hlt hI hlt2 hix hwu
    rw [goF_round hdr htk] at hI
    have htk2:(p.take (k+1)).map Cs.name=(p.take k).map Cs.name++[c.name]:=by rw [htk,List.map_append];rfl
    have hcz:c.sz≤2097152:=by have:=sumOf_mem (f:=Cs.sz) (List.mem_of_getElem? hc);omega
    obtain⟨y1,y2,y3,y4,y5,y6,y7,y8,y9⟩:=Cs.szH hcz
    have hone:sumOf Cs.sz [c]≤2097152:=by rw [sumOf_one];exact hcz
    have k1:=ptHead p A ((p.take k).map Cs.name) c hA hcz
    have hl2:=typesL_len [c]
    have hT:=paTypes [c] hone (by have:=spCs_len 0 [c];omega)
    have k2:=fun M=>ptTypes p A M c hA hT (by omega)
    have k3:=fun M=>ptVars p A M c.fields (by omega)
    have k4:=fun M=>ptMethods p A M c.methods y7
    unfold classF at hI
    generalize (p.take k).map Cs.name=met at *
    cases h1:headF p met c with
    | some f =>
     rw [h1] at hI k1
     rw [hI]
     unfold ckAt
     replace fx:=And.intro hlt2 (And.intro hix (And.intro hwu trivial))
     repeat' (first|refine stp [0,2,3,5,7,10,18,19,20,30,31,32,33,59] ?_|(refine RS.sE ?_;refine rnx ?_)|(refine RS.mU ?_;refine rnx ?_)|(refine RS.mM ?_;refine rnx ?_)|(refine RS.pk ?_;refine rnx ?_)|(refine RS.gF ?_;refine rnx ?_)|(refine RS.lC ?_;refine rnx ?_)|(refine RS.xC ?_;refine rnx ?_)|(refine RS.cM [3,1,2] (hp:=by exact k1) (h:=?_);refine rnx ?_)|(refine RS.gM [3,1,2] (hp:=by exact k1) (h:=?_);refine rnx ?_)|(refine RS.cvM [3,1,2] (hp:=by exact k1) (h:=?_);refine rnx ?_)|refine WP.cn (fun hc=>?_) (fun hc=>?_)|((first|refine WP.dw (id:=6) 9 [0,2,3,5,7,10,18,19,20,30,31,32,33,59] ?_);simp only [RQr_mk,List.drop_succ_cons,List.drop_zero,List.drop_nil])|fail)
     rfl
    | none =>
     rw [h1] at hI k1
     have hm:metV met c.name=1∧(met.any fun y=>y==c.name)=false:=by
      unfold headF at h1
      unfold metV
      cases hm:met.any fun y=>y==c.name with
      | true=>rw [hm] at h1;simp at h1
      | false=>exact⟨rfl,rfl⟩
     rw [hm.1,put_ones hm.2,←htk2] at k1
     cases h2:typF p (typesL [c]) with
     | some f =>
      rw [h2] at hI k2
      rw [hI]
      unfold ckAt
      replace fx:=And.intro hlt2 (And.intro hix (And.intro hwu trivial))
      repeat' (first|refine stp [0,2,3,5,7,10,18,19,20,30,31,32,33,59] ?_|(refine RS.sE ?_;refine rnx ?_)|(refine RS.mU ?_;refine rnx ?_)|(refine RS.mM ?_;refine rnx ?_)|(refine RS.pk ?_;refine rnx ?_)|(refine RS.gF ?_;refine rnx ?_)|(refine RS.lC ?_;refine rnx ?_)|(refine RS.xC ?_;refine rnx ?_)|(refine RS.cM [3,1,2] (hp:=by first|exact k1|exact k2 _) (h:=?_);refine rnx ?_)|(refine RS.gM [3,1,2] (hp:=by first|exact k1|exact k2 _) (h:=?_);refine rnx ?_)|(refine RS.cvM [3,1,2] (hp:=by first|exact k1|exact k2 _) (h:=?_);refine rnx ?_)|refine WP.cn (fun hc=>?_) (fun hc=>?_)|((first|refine WP.dw (id:=6) 9 [0,2,3,5,7,10,18,19,20,30,31,32,33,59] ?_);simp only [RQr_mk,List.drop_succ_cons,List.drop_zero,List.drop_nil])|fail)
      rfl
     | none =>
      rw [h2] at hI k2
      cases h3:varsF c.fields with
      | some f =>
       rw [h3] at hI k3
       rw [hI]
       unfold ckAt
       replace fx:=And.intro hlt2 (And.intro hix (And.intro hwu trivial))
       repeat' (first|refine stp [0,2,3,5,7,10,18,19,20,30,31,32,33,59] ?_|(refine RS.sE ?_;refine rnx ?_)|(refine RS.mU ?_;refine rnx ?_)|(refine RS.mM ?_;refine rnx ?_)|(refine RS.pk ?_;refine rnx ?_)|(refine RS.gF ?_;refine rnx ?_)|(refine RS.lC ?_;refine rnx ?_)|(refine RS.xC ?_;refine rnx ?_)|(refine RS.cM [3,1,2] (hp:=by first|exact k1|exact k2 _|exact k3 _) (h:=?_);refine rnx ?_)|(refine RS.gM [3,1,2] (hp:=by first|exact k1|exact k2 _|exact k3 _) (h:=?_);refine rnx ?_)|(refine RS.cvM [3,1,2] (hp:=by first|exact k1|exact k2 _|exact k3 _) (h:=?_);refine rnx ?_)|refine WP.cn (fun hc=>?_) (fun hc=>?_)|((first|refine WP.dw (id:=6) 9 [0,2,3,5,7,10,18,19,20,30,31,32,33,59] ?_);simp only [RQr_mk,List.drop_succ_cons,List.drop_zero,List.drop_nil])|fail)
       rfl
      | none =>
       rw [h3] at hI k3
       cases h4:methF [] c.methods with
       | some f =>
        rw [h4] at hI k4
        rw [hI]
        unfold ckAt
        replace fx:=And.intro hlt2 (And.intro hix (And.intro hwu trivial))
        repeat' (first|refine stp [0,2,3,5,7,10,18,19,20,30,31,32,33,59] ?_|(refine RS.sE ?_;refine rnx ?_)|(refine RS.mU ?_;refine rnx ?_)|(refine RS.mM ?_;refine rnx ?_)|(refine RS.pk ?_;refine rnx ?_)|(refine RS.gF ?_;refine rnx ?_)|(refine RS.lC ?_;refine rnx ?_)|(refine RS.xC ?_;refine rnx ?_)|(refine RS.cM [3,1,2] (hp:=by first|exact k1|exact k2 _|exact k3 _|exact k4 _) (h:=?_);refine rnx ?_)|(refine RS.gM [3,1,2] (hp:=by first|exact k1|exact k2 _|exact k3 _|exact k4 _) (h:=?_);refine rnx ?_)|(refine RS.cvM [3,1,2] (hp:=by first|exact k1|exact k2 _|exact k3 _|exact k4 _) (h:=?_);refine rnx ?_)|refine WP.cn (fun hc=>?_) (fun hc=>?_)|((first|refine WP.dw (id:=6) 9 [0,2,3,5,7,10,18,19,20,30,31,32,33,59] ?_);simp only [RQr_mk,List.drop_succ_cons,List.drop_zero,List.drop_nil])|fail)
        rfl
       | none =>
        rw [h4] at hI k4
        unfold ckAt
        replace fx:=And.intro hlt2 (And.intro hix (And.intro hwu trivial))
        repeat' (first|refine stp [0,2,3,5,7,10,18,19,20,30,31,32,33,59] ?_|(refine RS.sE ?_;refine rnx ?_)|(refine RS.mU ?_;refine rnx ?_)|(refine RS.mM ?_;refine rnx ?_)|(refine RS.pk ?_;refine rnx ?_)|(refine RS.gF ?_;refine rnx ?_)|(refine RS.lC ?_;refine rnx ?_)|(refine RS.xC ?_;refine rnx ?_)|(refine RS.cM [3,1,2] (hp:=by first|exact k1|exact k2 _|exact k3 _|exact k4 _) (h:=?_);refine rnx ?_)|(refine RS.gM [3,1,2] (hp:=by first|exact k1|exact k2 _|exact k3 _|exact k4 _) (h:=?_);refine rnx ?_)|(refine RS.cvM [3,1,2] (hp:=by first|exact k1|exact k2 _|exact k3 _|exact k4 _) (h:=?_);refine rnx ?_)|refine WP.cn (fun hc=>?_) (fun hc=>?_)|((first|refine WP.dw (id:=6) 9 [0,2,3,5,7,10,18,19,20,30,31,32,33,59] ?_);simp only [RQr_mk,List.drop_succ_cons,List.drop_zero,List.drop_nil])|fail)
        exact⟨hI,_,by simp only [Agree,go_sem,simprocAttr],rfl,rfl,by simp only [go_sem,simprocAttr]⟩
   ·intro hI hlt2
    rw [List.drop_length,goF] at hI
    rw [hI]
    unfold ckAt
    replace fx:=And.intro hlt2 trivial
    repeat' (first|refine stp [0,2,3,5,7,10,18,19,20,30,31,32,33,59] ?_|(refine RS.sE ?_;refine rnx ?_)|(refine RS.mU ?_;refine rnx ?_)|(refine RS.mM ?_;refine rnx ?_)|(refine RS.pk ?_;refine rnx ?_)|(refine RS.gF ?_;refine rnx ?_)|(refine RS.lC ?_;refine rnx ?_)|(refine RS.xC ?_;refine rnx ?_)|refine WP.cn (fun hc=>?_) (fun hc=>?_)|((first|refine WP.dw (id:=6) 9 [0,2,3,5,7,10,18,19,20,30,31,32,33,59] ?_);simp only [RQr_mk,List.drop_succ_cons,List.drop_zero,List.drop_nil])|fail)
    rfl
end Go.Proofs.YtibdalkdgjghoaaDoor
namespace Go.Proofs.YtibdalkdgjghoaaDoor
open Go.RowKit
theorem typF_ne' {p:List Cs}:∀{l:List Nt} {f:Int×Int},typF p l=some f→(f.1 != 0)=true
 | [],f,h=>by cases h
 | t::r,f,h=>by
  rw [typF] at h
  split at h
  ·exact typF_ne' h
  ·split at h
   ·injection h with h;subst h;rfl
   ·split at h
    ·injection h with h;subst h;rfl
    ·exact typF_ne' h
theorem methF_ne':∀{l:List Me} {met:List (List UInt8)} {f:Int×Int},methF met l=some f→(f.1 != 0)=true
 | [],met,f,h=>by cases h
 | m::r,met,f,h=>by
  rw [methF] at h
  split at h
  ·injection h with h;subst h;rfl
  ·split at h
   ·rename_i g hg
    injection h with h;subst h
    unfold varsF at hg
    rw [Option.map_eq_some_iff] at hg
    obtain⟨a,_,rfl⟩:=hg;rfl
   ·exact methF_ne' h
theorem classF_ne' {p:List Cs} {met:List (List UInt8)} {c:Cs} {f:Int×Int} (h:classF p met c=some f):(f.1 != 0)=true:=by
 unfold classF at h
 split at h
 ·rename_i g hg
  injection h with h;subst h
  unfold headF at hg
  repeat' (split at hg)
  all_goals first|(injection hg with hg;subst hg;rfl)|cases hg
 ·split at h
  ·rename_i g hg
   injection h with h;subst h
   exact typF_ne' hg
  ·split at h
   ·rename_i g hg
    injection h with h;subst h
    unfold varsF at hg
    rw [Option.map_eq_some_iff] at hg
    obtain⟨a,_,rfl⟩:=hg;rfl
   ·exact methF_ne' h
theorem ixOf_upto {α:Type} (q:α→Bool):∀(l:List α) (k i:Nat) (c:α),l[i]? = some c→q c=true→(k:Int)≤ixOf q l k∧ixOf q l k≤((k+i:Nat):Int)
 | [],k,i,c,hc,_=>by simp at hc
 | x::r,k,i,c,hc,hq=>by
  rw [ixOf]
  cases hx:q x with
  | true=>rw [if_pos rfl];omega
  | false =>
   rw [if_neg Bool.false_ne_true]
   cases i with
   | zero=>simp at hc;subst hc;rw [hq] at hx;cases hx
   | succ i=>have:=ixOf_upto q r (k+1) i c (by simpa using hc) hq;omega
theorem findI_le' {p:List Cs} {i:Nat} {c:Cs} {s:List UInt8} (hc:p[i]? = some c) (hs:c.name=s):0≤findI p s∧findI p s≤(i:Int):=by
 have:=ixOf_upto (fun d:Cs=>d.name==s) p 0 i c hc (by simpa using hs)
 rw [Nat.zero_add] at this
 exact this
theorem findI_own {p:List Cs} {i:Nat} {c:Cs} (hc:p[i]? = some c) (hm:(((p.take i).map Cs.name).any fun y=>y==c.name)=false):findI p c.name=(i:Int):=by
 obtain⟨h1,h2⟩:=findI_le' hc rfl
 rcases findI_get p c.name with h|⟨j,z,h3,h4,h5⟩
 ·omega
 ·by_cases hj:j<i
  ·have:(((p.take i).map Cs.name).any fun y=>y==c.name)=true:=by
    rw [List.any_map,List.any_eq_true]
    exact⟨z,List.mem_of_getElem? (show (p.take i)[j]? = some z by rw [List.getElem?_take,if_pos hj];exact h3),by simpa using h4⟩
   rw [this] at hm;cases hm
  ·omega
theorem goF_ok {p:List Cs}:∀(l:List Cs) (met:List (List UInt8)),(goF p met l).1=0→∀(i:Nat) (c:Cs),l[i]? = some c→classF p (met++(l.take i).map Cs.name) c=none
 | [],met,_,i,c,hc=>by simp at hc
 | d::r,met,h,i,c,hc=>by
  rw [goF] at h
  cases hd:classF p met d with
  | some f=>rw [hd] at h;exact absurd h (by have:=classF_ne' hd;simpa using this)
  | none =>
   rw [hd] at h
   cases i with
   | zero=>simp at hc;subst hc;rw [List.take_zero,List.map_nil,List.append_nil];exact hd
   | succ i =>
    have:=goF_ok r (met++[d.name]) h i c (by simpa using hc)
    rwa [List.append_assoc] at this
theorem goF_all {p:List Cs}:∀(l q:List Cs) (met:List (List UInt8)),(∀(i:Nat) (c:Cs),l[i]? = some c→classF p (met++(l.take i).map Cs.name) c=none)→goF p met (l++q)=goF p (met++l.map Cs.name) q
 | [],q,met,_=>by rw [List.nil_append,List.map_nil,List.append_nil]
 | d::r,q,met,h=>by
  have h0:=h 0 d rfl
  rw [List.take_zero,List.map_nil,List.append_nil] at h0
  rw [List.cons_append,goF,h0]
  dsimp only
  rw [goF_all r q (met++[d.name]) fun i c hc=>?_,List.append_assoc,List.map_cons];rfl
  have:=h (i+1) c (by simpa using hc)
  rw [List.take_succ_cons,List.map_cons] at this
  rwa [List.append_assoc]
theorem arity_app:∀(p q:List Cs) (s:List UInt8),0≤arityI p s→arityI (p++q) s=arityI p s
 | [],q,s,h=>by rw [arity_nil] at h;omega
 | c::r,q,s,h=>by
  rw [arity_cons] at h
  rw [List.cons_append,arity_cons,arity_cons]
  split
  ·rfl
  ·rename_i hn;rw [if_neg hn] at h;exact arity_app r q s h
theorem arity_no:∀(p:List Cs) (s:List UInt8),arityI p s<0→arityI p s = -1∧∀q,arityI (p++q) s=arityI q s
 | [],s,_=>⟨rfl,fun q=>rfl⟩
 | c::r,s,h=>by
  rw [arity_cons] at h
  split at h
  ·omega
  ·rename_i hn
   obtain⟨i1,i2⟩:=arity_no r s h
   exact⟨by rw [arity_cons,if_neg hn];exact i1,fun q=>by rw [List.cons_append,arity_cons,if_neg hn];exact i2 q⟩
theorem arity_find (p:List Cs) (s:List UInt8):arityI p s<0↔findI p s<0:=by
 rcases findI_get p s with h|⟨j,z,h1,h2,h3⟩
 ·rw [arityI_no h,h]
 ·rw [arityI_yes h3 h1,h3];exact⟨fun h=>by omega,fun h=>by omega⟩
theorem typF_ext {p q:List Cs}:∀{l:List Nt},typF p l=none→typF (p++q) l=none
 | [],_=>rfl
 | t::r,h=>by
  rw [typF] at h ⊢
  split
  ·rename_i hk;rw [if_pos hk] at h;exact typF_ext h
  ·rename_i hk
   rw [if_neg hk] at h
   by_cases ha:arityI p t.t.cls<0
   ·rw [if_pos ha] at h;cases h
   ·rw [if_neg ha] at h
    rw [arity_app p q _ (by omega),if_neg ha]
    split
    ·rename_i hb;rw [if_pos hb] at h;cases h
    ·rename_i hb;rw [if_neg hb] at h;exact typF_ext h
theorem headF_ext {p q:List Cs} {met:List (List UInt8)} {c:Cs} (h:headF p met c=none):headF (p++q) met c=none:=by
 unfold headF at h ⊢
 split
 ·rename_i h1;rw [if_pos h1] at h;cases h
 ·rename_i h1
  rw [if_neg h1] at h
  split
  ·rename_i h2;rw [if_pos h2] at h;cases h
  ·rename_i h2
   rw [if_neg h2] at h
   split
   ·rfl
   ·rename_i h3
    rw [if_neg h3] at h
    by_cases ha:arityI p c.super<0
    ·rw [if_pos ha] at h;cases h
    ·rw [if_neg ha] at h
     rw [arity_app p q _ (by omega),if_neg ha]
     split
     ·rename_i hb;rw [if_pos hb] at h;cases h
     ·rfl
theorem classF_parts {p:List Cs} {met:List (List UInt8)} {c:Cs}:classF p met c=none↔headF p met c=none∧typF p (typesL [c])=none∧varsF c.fields=none∧methF [] c.methods=none:=by
 unfold classF
 cases headF p met c<;>cases typF p (typesL [c])<;>cases varsF c.fields<;>simp
theorem classF_ext {p q:List Cs} {met:List (List UInt8)} {c:Cs} (h:classF p met c=none):classF (p++q) met c=none:=by
 rw [classF_parts] at h ⊢
 exact⟨headF_ext h.1,typF_ext h.2.1,h.2.2⟩
theorem checkF_ok {p:List Cs} (h:(checkF p).1=0):rightB p=true∧∀(i:Nat) (c:Cs),p[i]? = some c→classF p ((p.take i).map Cs.name) c=none:=by
 unfold checkF at h
 split at h
 ·rename_i hr;exact⟨hr,fun i c hc=>by have:=goF_ok p [] h i c hc;rwa [List.nil_append] at this⟩
 ·exact absurd h (by decide)
theorem find_own {p:List Cs} (h:(checkF p).1=0) {i:Nat} {c:Cs} (hc:p[i]? = some c):findI p c.name=(i:Int)∧arityI p c.name=(c.params.length:Int):=by
 have h1:=(classF_parts.1 ((checkF_ok h).2 i c hc)).1
 have hm:(((p.take i).map Cs.name).any fun y=>y==c.name)=false:=by
  unfold headF at h1
  cases hm:((p.take i).map Cs.name).any fun y=>y==c.name with
  | false=>rfl
  | true=>rw [hm] at h1;simp at h1
 have h4:=findI_own hc hm
 exact⟨h4,arityI_yes h4 hc⟩
theorem rightB_app {p:List Cs} {c:Cs} (h:rightB p=true) (hl:p.length<20) (hc:c.rightB=true) (hs:c.stmts=0):rightB (p++[c])=true:=by
 unfold rightB at h ⊢
 rw [Bool.and_eq_true,List.all_eq_true] at h
 rw [Bool.and_eq_true,List.all_eq_true]
 refine⟨fun d hd=>?_,?_⟩
 ·rw [List.length_append,List.length_singleton,decide_eq_false (by omega),Bool.false_or,Bool.not_not]
  rcases List.mem_append.1 hd with h1|h1
  ·have:=h.1 d h1
   simp only [Bool.not_or,Bool.and_eq_true,Bool.not_not] at this
   exact this.2
  ·rw [List.mem_singleton] at h1;subst h1;exact hc
 ·rw [sumOf_app,sumOf_one,hs];exact h.2
theorem more_go {p:List Cs} (h:(checkF p).1=0) (hl:p.length<20) {c:Cs} (hc:c.rightB=true) (hs:c.stmts=0):checkF (p++[c])=match classF (p++[c]) (p.map Cs.name) c with|some f=>f|none=>(0,0):=by
 obtain⟨h1,h2⟩:=checkF_ok h
 unfold checkF
 rw [rightB_app h1 hl hc hs,if_pos rfl,goF_all p [c] [] fun i d hd=>by rw [List.nil_append];exact classF_ext (h2 i d hd)]
 rw [List.nil_append,goF]
 cases classF (p++[c]) (p.map Cs.name) c<;>rfl
def cM0 (name:List UInt8) (a:Int):Cs:=⟨name,[],[],[],[],[],a⟩
def cM1 (name:List UInt8) (a:Int):Cs:=⟨name,[],[],[],[⟨[102],⟨2,name++[120],0,(2,0),(0,0),(0,0),(0,0)⟩,a⟩],[],0⟩
theorem cM0_right {name:List UInt8} (a:Int) (hn:nameB name=true):(cM0 name a).rightB=true:=by
 unfold cM0 Cs.rightB
 simp [hn,vrsB]
theorem cM1_right {name:List UInt8} (a:Int) (hn:nameB name=true) (hx:nameB (name++[120])=true):(cM1 name a).rightB=true:=by
 have h2:nameB [102]=true:=by decide
 unfold cM1 Cs.rightB
 simp [hn,vrsB,vrB,h2,wrB,tyB,hx,Ty.own,owB]
theorem nameB_x {name:List UInt8} (hn:nameB name=true) (hl:name.length<20) (hf:findW (name++[120])=0):nameB (name++[120])=true:=by
 unfold nameB at hn ⊢
 simp only [Bool.and_eq_true,decide_eq_true_iff] at hn ⊢
 obtain⟨⟨⟨⟨h1,h2⟩,h3⟩,h4⟩,h5⟩:=hn
 refine⟨⟨⟨⟨by simp,by simp;omega⟩,?_⟩,?_⟩,by rw [hf];rfl⟩
 ·cases name with
  | nil=>simp at h1
  | cons a r=>exact h3
 ·rw [List.all_append,h4];decide
theorem find_any (p:List Cs) (s:List UInt8):(p.map Cs.name).any (fun y=>y==s)=decide (findI p s≥0):=by
 rw [List.any_map]
 rcases findI_get p s with h|⟨j,z,h1,h2,h3⟩
 ·rw [h]
  rw [show decide ((-1:Int)≥0)=false from rfl,List.any_eq_false]
  intro c hc hq
  obtain⟨i,hi⟩:=List.getElem?_of_mem hc
  have h4:=(findI_le' hi (eq_of_beq hq)).1
  omega
 ·rw [h3,decide_eq_true (by omega),List.any_eq_true]
  exact⟨z,List.mem_of_getElem? h1,by simpa using h2⟩
theorem more_there {p:List Cs} (h:(checkF p).1=0) (hl:p.length<20) {name:List UInt8} (a:Int) (hn:nameB name=true) (hf:findI p name≥0):checkF (p++[cM0 name a])=(7,a):=by
 rw [more_go h hl (cM0_right a hn) rfl]
 have:headF (p++[cM0 name a]) (p.map Cs.name) (cM0 name a)=some (7,a):=by
  unfold headF
  rw [if_neg (show ¬dupB (cM0 name a).params=true from (by decide:¬dupB []=true)),find_any,if_pos (by exact decide_eq_true hf)];rfl
 unfold classF
 rw [this]
theorem more_not {p:List Cs} (h:(checkF p).1=0) (hl:p.length<20) {name:List UInt8} (a:Int) (hn:nameB name=true) (hf:¬findI p name≥0):checkF (p++[cM0 name a])=(0,0):=by
 rw [more_go h hl (cM0_right a hn) rfl]
 have:headF (p++[cM0 name a]) (p.map Cs.name) (cM0 name a)=none:=by
  unfold headF
  rw [if_neg (show ¬dupB (cM0 name a).params=true from (by decide:¬dupB []=true)),find_any,if_neg (by rw [decide_eq_true_iff];exact hf)];rfl
 unfold classF
 rw [this]
 rfl
theorem more_field {p:List Cs} (h:(checkF p).1=0) (hl:p.length<20) {name:List UInt8} (a:Int) (hn:nameB name=true) (hf:¬findI p name≥0) (hs:name.length<20) (hw:findW (name++[120])=0) (hx:¬findI p (name++[120])≥0):checkF (p++[cM1 name a])=(8,a):=by
 rw [more_go h hl (cM1_right a hn (nameB_x hn hs hw)) rfl]
 have h1:headF (p++[cM1 name a]) (p.map Cs.name) (cM1 name a)=none:=by
  unfold headF
  rw [if_neg (show ¬dupB (cM1 name a).params=true from (by decide:¬dupB []=true)),find_any,if_neg (by rw [decide_eq_true_iff];exact hf)];rfl
 have ha:arityI (p++[cM1 name a]) (name++[120])<0:=by
  rw [(arity_no p _ ((arity_find p _).2 (by omega))).2,arity_cons,if_neg]
  ·rw [arity_nil];decide
  ·intro hq
   have:=congrArg List.length (eq_of_beq hq)
   simp [cM1] at this
 have h2:typF (p++[cM1 name a]) (typesL [cM1 name a])=some (8,a):=by
  show typF (p++[cM1 name a]) [⟨0,-1,0,⟨2,name++[120],0,(2,0),(0,0),(0,0),(0,0)⟩,a⟩]=_
  rw [typF,if_neg (show ¬(_:Bool)=false from (by decide:¬((2:Int)==2)=false)),if_pos ha];rfl
 unfold classF
 rw [h1,h2]
end Go.Proofs.YtibdalkdgjghoaaDoor
namespace Go.Proofs.YtibdalkdgjghoaaDoor
open Go.RowKit
theorem pFind02 (t:List UInt8):DPure Tryd.prog 10 [.a (.v (.string (bs t)))] (.a (.v (.int .i64 (findW t)))):=by
 have:=DPure.scal (P:=Tryd.prog) (f:=10) (xs:=[.string (bs t)]) (z:=.int .i64 (findW t)) (callFunc_of Tryd.func10 rfl rfl) rfl fun w _=>by
  have:=r02Find_any (bs t) w
  rw [bs_data] at this
  exact this
 exact this
theorem eqFtS (a b:Int):eqR false (some [1,1]) [.v (.int .i64 a),.v (.int .i64 b)] [.v (.int .i64 a),.v (.int .i64 b)]=some (.a (.v (.bool true))):=by simp [eqR,plainR,okLs,eqLs,okC,eqV]
theorem bs_x (l:List UInt8):bs l++(⟨#[120]⟩:ByteArray)=bs (l++[120]):=by
 apply ByteArray.ext
 rw [ByteArray.data_append]
 simp [bs]
theorem add_x (l:List UInt8) (h:l.length≤20):evBin false .add (.string (bs l)) (.string ⟨#[120]⟩)=some (.string (bs (l++[120]))):=by
 have h2:(bs l).size+(⟨#[120]⟩:ByteArray).size≤9223372036854775807:=by
  have:(⟨#[120]⟩:ByteArray).size=1:=rfl
  rw [bs_size,this];omega
 show (if (bs l).size+(⟨#[120]⟩:ByteArray).size≤9223372036854775807 then some (Value.string (bs l++⟨#[120]⟩)) else none)=_
 rw [if_pos h2,bs_x]
theorem sz_cM0 (name:List UInt8) (a:Int):(cM0 name a).sz≤64+4*name.length:=by
 simp [cM0,Cs.sz,sumOf];omega
theorem sz_cM1 (name:List UInt8) (a:Int):(cM1 name a).sz≤64+4*name.length:=by
 simp [cM1,Cs.sz,Vr.sz,sumOf];omega
theorem pMore0 (p:List Cs) (name:List UInt8) (a:Int) (hz:sumOf Cs.sz p≤1048576) (hn:name.length≤1048576) (h:(checkF p).1≠0∨heavyB p=true∨20≤p.length∨nameB name=false):DPure Tryd.prog 3 [.a (.sl (p.map Cs.at)),.a (.v (.string (bs name))),.a (.v (.int .i64 a))] (.a (.v (.bool true))):=by
 have c1:=ptCheck p (by omega)
 have c2:=pHeavy p (by omega)
 have c3:=pName name (by omega)
 have hne:((checkF p).1 != 0) = !decide ((checkF p).1=0):=by cases hh:decide ((checkF p).1=0)<;>simp_all
 have hge:decide ((p.length:Int)≥20)=decide (20≤p.length):=by by_cases h2:20≤p.length<;>simp [h2]<;>omega
 cases h1:heavyB p with
 | true =>
  rw [h1] at c2
  refine DPure.go Tryd.func3 rfl Tryd.ntmps3 rfl rfl rfl (fun C hro=>?_)
  have fx:=trivial
  repeat' (first|refine stp [0,1,2,6,7,8,9,10,28,33,60,75,91] ?_|(refine RS.aO ?_;refine rnx ?_)|(refine RS.aN ?_;refine rnx ?_)|(refine RS.l0 ?_;refine rnx ?_)|(refine RS.li ?_;refine rnx ?_)|(refine RS.sE ?_;refine rnx ?_)|(refine RS.pk ?_;refine rnx ?_)|(refine RS.gF ?_;refine rnx ?_)|(refine RS.aE ?_;refine rnx ?_)|(refine RS.aK ?_;refine rnx ?_)|(refine RS.lC ?_;refine rnx ?_)|(refine RS.xC ?_;refine rnx ?_)|(refine RS.bC ?_;refine rnx ?_)|(refine stc (r1:=by first|exact c2|exact pAwake13) (r2:=?_);refine rnx ?_)|refine WP.cn (fun hc=>?_) (fun hc=>?_)|((first|refine WP.dw (id:=6) 25 [0,1,2,6,7,8,9,10,28,33,60,75,91] ?_);simp only [RQr_mk,List.drop_succ_cons,List.drop_zero,List.drop_nil])|fail)
  all_goals rfl
 | false =>
  rw [h1] at c2
  cases h2:decide ((checkF p).1=0) with
  | false =>
   rw [h2] at hne
   replace hne:((checkF p).1 != 0)=true:=hne
   refine DPure.go Tryd.func3 rfl Tryd.ntmps3 rfl rfl rfl (fun C hro=>?_)
   have fx:=trivial
   replace fx:=And.intro hne trivial
   repeat' (first|refine stp [0,1,2,6,7,8,9,10,28,33,60,75,91] ?_|(refine RS.aO ?_;refine rnx ?_)|(refine RS.aN ?_;refine rnx ?_)|(refine RS.l0 ?_;refine rnx ?_)|(refine RS.li ?_;refine rnx ?_)|(refine RS.sE ?_;refine rnx ?_)|(refine RS.pk ?_;refine rnx ?_)|(refine RS.gF ?_;refine rnx ?_)|(refine RS.aE ?_;refine rnx ?_)|(refine RS.aK ?_;refine rnx ?_)|(refine RS.lC ?_;refine rnx ?_)|(refine RS.xC ?_;refine rnx ?_)|(refine RS.bC ?_;refine rnx ?_)|(refine stc (r1:=by first|exact c2|exact c1|exact pAwake13) (r2:=?_);refine rnx ?_)|refine WP.cn (fun hc=>?_) (fun hc=>?_)|((first|refine WP.dw (id:=6) 25 [0,1,2,6,7,8,9,10,28,33,60,75,91] ?_);simp only [RQr_mk,List.drop_succ_cons,List.drop_zero,List.drop_nil])|fail)
   all_goals rfl
  | true =>
   rw [h2] at hne
   replace hne:((checkF p).1 != 0)=false:=hne
   cases h3:decide (20≤p.length) with
   | true =>
    rw [h3] at hge
    refine DPure.go Tryd.func3 rfl Tryd.ntmps3 rfl rfl rfl (fun C hro=>?_)
    have fx:=trivial
    replace fx:=And.intro hne (And.intro hge trivial)
    repeat' (first|refine stp [0,1,2,6,7,8,9,10,28,33,60,75,91] ?_|(refine RS.aO ?_;refine rnx ?_)|(refine RS.aN ?_;refine rnx ?_)|(refine RS.l0 ?_;refine rnx ?_)|(refine RS.li ?_;refine rnx ?_)|(refine RS.sE ?_;refine rnx ?_)|(refine RS.pk ?_;refine rnx ?_)|(refine RS.gF ?_;refine rnx ?_)|(refine RS.aE ?_;refine rnx ?_)|(refine RS.aK ?_;refine rnx ?_)|(refine RS.lC ?_;refine rnx ?_)|(refine RS.xC ?_;refine rnx ?_)|(refine RS.bC ?_;refine rnx ?_)|(refine stc (r1:=by first|exact c2|exact c1|exact pAwake13) (r2:=?_);refine rnx ?_)|refine WP.cn (fun hc=>?_) (fun hc=>?_)|((first|refine WP.dw (id:=6) 25 [0,1,2,6,7,8,9,10,28,33,60,75,91] ?_);simp only [RQr_mk,List.drop_succ_cons,List.drop_zero,List.drop_nil])|fail)
    all_goals rfl
   | false =>
    rw [h3] at hge
    have h4:nameB name=false:=by
     rcases h with h|h|h|h
     ·exact absurd (of_decide_eq_true h2) h
     ·rw [h1] at h;cases h
     ·exact absurd h (of_decide_eq_false h3)
     ·exact h
    rw [h4] at c3
    refine DPure.go Tryd.func3 rfl Tryd.ntmps3 rfl rfl rfl (fun C hro=>?_)
    have fx:=trivial
    replace fx:=And.intro hne (And.intro hge trivial)
    repeat' (first|refine stp [0,1,2,6,7,8,9,10,28,33,60,75,91] ?_|(refine RS.aO ?_;refine rnx ?_)|(refine RS.aN ?_;refine rnx ?_)|(refine RS.l0 ?_;refine rnx ?_)|(refine RS.li ?_;refine rnx ?_)|(refine RS.sE ?_;refine rnx ?_)|(refine RS.pk ?_;refine rnx ?_)|(refine RS.gF ?_;refine rnx ?_)|(refine RS.aE ?_;refine rnx ?_)|(refine RS.aK ?_;refine rnx ?_)|(refine RS.lC ?_;refine rnx ?_)|(refine RS.xC ?_;refine rnx ?_)|(refine RS.bC ?_;refine rnx ?_)|(refine stc (r1:=by first|exact c2|exact c1|exact c3|exact pAwake13) (r2:=?_);refine rnx ?_)|refine WP.cn (fun hc=>?_) (fun hc=>?_)|((first|refine WP.dw (id:=6) 25 [0,1,2,6,7,8,9,10,28,33,60,75,91] ?_);simp only [RQr_mk,List.drop_succ_cons,List.drop_zero,List.drop_nil])|fail)
    all_goals rfl
theorem pMore1 (p:List Cs) (name:List UInt8) (a:Int) (hz:sumOf Cs.sz p≤1048576) (hn:name.length≤1048576) (h0:(checkF p).1=0) (h1:heavyB p=false) (h2:p.length<20) (h3:nameB name=true):DPure Tryd.prog 3 [.a (.sl (p.map Cs.at)),.a (.v (.string (bs name))),.a (.v (.int .i64 a))] (.a (.v (.bool true))):=by
 have c1:=ptCheck p (by omega)
 have c2:=pHeavy p (by omega)
 have c3:=pName name (by omega)
 have hpl:p.length≤1048576:=by omega
 have hpl2:p.length≤2097152:=by omega
 rw [h0] at c1
 rw [h1] at c2
 rw [h3] at c3
 have hge:decide ((p.length:Int)≥20)=false:=decide_eq_false (by omega)
 have hnl:name.length≤20:=by
  have:=h3
  unfold nameB at this
  simp only [Bool.and_eq_true,decide_eq_true_iff] at this
  omega
 have c4:=ptFind p name hpl2
 have c5:=ptArity p name hpl2
 have c6:=pFind02 (name++[120])
 have c7:=ptFind p (name++[120]) hpl2
 refine DPure.go Tryd.func3 rfl Tryd.ntmps3 rfl rfl rfl (fun C hro=>?_)
 have fx:=trivial
 replace fx:=And.intro hge trivial
 repeat' (first|refine stp [0,1,2,6,7,8,9,10,28,33,60,75,91] ?_|(refine RS.aO ?_;refine rnx ?_)|(refine RS.aN ?_;refine rnx ?_)|(refine RS.l0 ?_;refine rnx ?_)|(refine RS.li ?_;refine rnx ?_)|(refine RS.sE ?_;refine rnx ?_)|(refine RS.pk ?_;refine rnx ?_)|(refine RS.gF ?_;refine rnx ?_)|(refine RS.aE ?_;refine rnx ?_)|(refine RS.aK ?_;refine rnx ?_)|(refine RS.lC ?_;refine rnx ?_)|(refine RS.xC ?_;refine rnx ?_)|(refine RS.bC ?_;refine rnx ?_)|(refine stc (r1:=by first|exact c2|exact c1|exact c3) (r2:=?_);refine rnx ?_)|refine WP.cn (fun hc=>?_) (fun hc=>?_)|((first|refine WP.dw (id:=6) 25 [0,1,2,6,7,8,9,10,28,33,60,75,91] ?_);simp only [RQr_mk,List.drop_succ_cons,List.drop_zero,List.drop_nil])|fail)
 refine WP.each p Cs.at 7 (fun k=>[(0,.a (.sl (p.map Cs.at))),(1,.a (.v (.string (bs name)))),(2,.a (.v (.int .i64 a))),(6,.a (.v (.bool false))),(7,.a (.v (.int .i64 (k:Nat))))]) (fun k=>[]) (fun k=>True) (by simp only [Agree,go_sem,simprocAttr];first|done|rfl) rfl trivial (by omega) (fun z=>Cs.len z) ?_ ?_
 ·intro k c hc hdr htk hlt hI hlt2 hix hwu
  obtain⟨e1,e2⟩:=find_own h0 hc
  have d1:=ptFind p c.name hpl2
  have d2:=ptArity p c.name hpl2
  rw [e1] at d1
  rw [e2] at d2
  have hb1:(((k:Nat):Int) != (k:Nat))=false:=bne_self_eq_false _
  have hb2:(((c.params.length:Nat):Int) != (c.params.length:Nat))=false:=bne_self_eq_false _
  replace fx:=And.intro hlt2 (And.intro hix (And.intro hwu (And.intro hb1 (And.intro hb2 trivial))))
  repeat' (first|refine stp [0,1,2,6,7,8,9,10,28,33,60,75,91] ?_|(refine RS.aO ?_;refine rnx ?_)|(refine RS.aN ?_;refine rnx ?_)|(refine RS.l0 ?_;refine rnx ?_)|(refine RS.li ?_;refine rnx ?_)|(refine RS.sE ?_;refine rnx ?_)|(refine RS.pk ?_;refine rnx ?_)|(refine RS.gF ?_;refine rnx ?_)|(refine RS.aE ?_;refine rnx ?_)|(refine RS.aK ?_;refine rnx ?_)|(refine RS.lC ?_;refine rnx ?_)|(refine RS.xC ?_;refine rnx ?_)|(refine RS.bC ?_;refine rnx ?_)|(refine stc (r1:=by first|exact d1|exact d2) (r2:=?_);refine rnx ?_)|refine WP.cn (fun hc=>?_) (fun hc=>?_)|((first|refine WP.dw (id:=6) 25 [0,1,2,6,7,8,9,10,28,33,60,75,91] ?_);simp only [RQr_mk,List.drop_succ_cons,List.drop_zero,List.drop_nil])|fail)
  exact⟨trivial,_,by simp only [Agree,go_sem,simprocAttr],rfl,rfl,by simp only [go_sem,simprocAttr]⟩
 ·intro hI hlt2
  have hzr:=zrCs
  replace fx:=And.intro hlt2 (And.intro hzr trivial)
  repeat' (first|refine stp [0,1,2,6,7,8,9,10,28,33,60,75,91] ?_|(refine RS.l0 ?_;refine rnx ?_)|(refine RS.sE ?_;refine rnx ?_)|(refine RS.pk ?_;refine rnx ?_)|(refine RS.gF ?_;refine rnx ?_)|(refine stc (r1:=by fail) (r2:=?_);refine rnx ?_)|refine WP.cn (fun hc=>?_) (fun hc=>?_)|fail)
  refine RS.aO ?_;refine rnx ?_
  refine RS.ls ?_;refine rnx ?_
  refine RS.aO ?_;refine rnx ?_
  refine RS.fnT ?_
  refine WP.freezeA (st':=[.gone]) 0 2 7 (p.map Cs.at++[Cs.at (cM0 name a)]) [(0,.a (.sl (p.map Cs.at))),(1,.a (.v (.string (bs name)))),(2,.a (.v (.int .i64 a))),(6,.a (.v (.bool false))),(8,.a (.sl (p.map Cs.at++[Cs.at (cM0 name a)])))] ?_ ?_ ?_ ?_
  ·rfl
  ·simp only [Agree,go_sem,simprocAttr]
  ·rfl
  have hs0:=sz_cM0 name a
  have d0:=ptCheck (p++[cM0 name a]) (by rw [sumOf_app,sumOf_one];omega)
  rw [List.map_append] at d0
  by_cases ht:findI p name≥0
  ·have hfd:decide (findI p name≥0)=true:=decide_eq_true ht
   have heq:=eqFtS 7 a
   rw [more_there h0 h2 a h3 ht] at d0
   replace fx:=And.intro hfd (And.intro heq trivial)
   repeat' (first|refine stp [0,1,2,6,7,8,9,10,28,33,60,75,91] ?_|(refine RS.aO ?_;refine rnx ?_)|(refine RS.aN ?_;refine rnx ?_)|(refine RS.l0 ?_;refine rnx ?_)|(refine RS.ls ?_;refine rnx ?_)|(refine RS.sE ?_;refine rnx ?_)|(refine RS.pk ?_;refine rnx ?_)|(refine RS.gF ?_;refine rnx ?_)|(refine RS.aE ?_;refine rnx ?_)|(refine RS.aK ?_;refine rnx ?_)|(refine RS.lC ?_;refine rnx ?_)|(refine RS.xC ?_;refine rnx ?_)|(refine RS.bC ?_;refine rnx ?_)|(refine stc (r1:=by first|exact c4|exact d0|exact pAwake13) (r2:=?_);refine rnx ?_)|refine WP.cn (fun hc=>?_) (fun hc=>?_)|((first|refine WP.dw (id:=6) 25 [0,1,2,6,7,8,9,10,28,33,60,75,91] ?_);simp only [RQr_mk,List.drop_succ_cons,List.drop_zero,List.drop_nil])|fail)
   all_goals rfl
  ·have hf1:findI p name = -1:=by rcases findI_get p name with h|⟨j,z,_,_,h⟩<;>omega
   have hfd:decide ((-1:Int)≥0)=false:=rfl
   rw [hf1] at c4
   rw [arityI_no hf1] at c5
   rw [more_not h0 h2 a h3 ht] at d0
   replace fx:=And.intro hfd trivial
   repeat' (first|refine stp [0,1,2,6,7,8,9,10,28,33,60,75,91] ?_|(refine RS.l0 ?_;refine rnx ?_)|(refine RS.sE ?_;refine rnx ?_)|(refine RS.pk ?_;refine rnx ?_)|(refine RS.gF ?_;refine rnx ?_)|(refine stc (r1:=by first|exact c4|exact d0|exact c5) (r2:=?_);refine rnx ?_)|refine WP.cn (fun hc=>?_) (fun hc=>?_)|fail)
   have z1:=zrTy
   have z2:=zrVr
   have z3:=zrOw
   have hax:=add_x name hnl
   replace fx:=And.intro hzr (And.intro z1 (And.intro z2 (And.intro z3 (And.intro hax trivial))))
   refine RS.aO ?_;refine rnx ?_
   refine RS.ls ?_;refine rnx ?_
   refine RS.ls ?_;refine rnx ?_
   refine RS.aO ?_;refine rnx ?_
   refine RS.fnT ?_
   refine WP.freezeA (st':=[.gone,.cell [.v (.int .i64 0),.v (.int .i64 0)],.gone]) 2 2 7 (p.map Cs.at++[Cs.at (cM1 name a)]) [(0,.a (.sl (p.map Cs.at))),(1,.a (.v (.string (bs name)))),(2,.a (.v (.int .i64 a))),(6,.a (.v (.bool false))),(8,.a (.sl (p.map Cs.at++[Cs.at (cM1 name a)])))] ?_ ?_ ?_ ?_
   ·rfl
   ·simp only [Agree,go_sem,simprocAttr]
   ·rfl
   have hs1:=sz_cM1 name a
   have d1:=ptCheck (p++[cM1 name a]) (by rw [sumOf_app,sumOf_one];omega)
   rw [List.map_append] at d1
   have heq:=eqFtS 8 a
   have hsz:=bs_size name
   cases e1:decide ((name.length:Int)≥20) with
   | true =>
    replace fx:=And.intro hax (And.intro hsz (And.intro e1 trivial))
    repeat' (first|refine stp [0,1,2,6,7,8,9,10,28,33,60,75,91] ?_|(refine RS.aO ?_;refine rnx ?_)|(refine RS.aN ?_;refine rnx ?_)|(refine RS.l0 ?_;refine rnx ?_)|(refine RS.ls ?_;refine rnx ?_)|(refine RS.sE ?_;refine rnx ?_)|(refine RS.pk ?_;refine rnx ?_)|(refine RS.gF ?_;refine rnx ?_)|(refine RS.aE ?_;refine rnx ?_)|(refine RS.aK ?_;refine rnx ?_)|(refine RS.lC ?_;refine rnx ?_)|(refine RS.xC ?_;refine rnx ?_)|(refine RS.bC ?_;refine rnx ?_)|(refine stc (r1:=by first|exact c6|exact c7|exact d1|exact pAwake13) (r2:=?_);refine rnx ?_)|refine WP.cn (fun hc=>?_) (fun hc=>?_)|((first|refine WP.dw (id:=6) 25 [0,1,2,6,7,8,9,10,28,33,60,75,91] ?_);simp only [RQr_mk,List.drop_succ_cons,List.drop_zero,List.drop_nil])|fail)
    all_goals rfl
   | false =>
    cases e2:decide (((findW (name++[120]):Nat):Int)>0) with
    | true =>
     replace fx:=And.intro hax (And.intro hsz (And.intro e1 (And.intro e2 trivial)))
     repeat' (first|refine stp [0,1,2,6,7,8,9,10,28,33,60,75,91] ?_|(refine RS.aO ?_;refine rnx ?_)|(refine RS.aN ?_;refine rnx ?_)|(refine RS.l0 ?_;refine rnx ?_)|(refine RS.ls ?_;refine rnx ?_)|(refine RS.sE ?_;refine rnx ?_)|(refine RS.pk ?_;refine rnx ?_)|(refine RS.gF ?_;refine rnx ?_)|(refine RS.aE ?_;refine rnx ?_)|(refine RS.aK ?_;refine rnx ?_)|(refine RS.lC ?_;refine rnx ?_)|(refine RS.xC ?_;refine rnx ?_)|(refine RS.bC ?_;refine rnx ?_)|(refine stc (r1:=by first|exact c6|exact c7|exact d1|exact pAwake13) (r2:=?_);refine rnx ?_)|refine WP.cn (fun hc=>?_) (fun hc=>?_)|((first|refine WP.dw (id:=6) 25 [0,1,2,6,7,8,9,10,28,33,60,75,91] ?_);simp only [RQr_mk,List.drop_succ_cons,List.drop_zero,List.drop_nil])|fail)
     all_goals rfl
    | false =>
     cases e3:decide (findI p (name++[120])≥0) with
     | true =>
      replace fx:=And.intro hax (And.intro hsz (And.intro e1 (And.intro e2 (And.intro e3 trivial))))
      repeat' (first|refine stp [0,1,2,6,7,8,9,10,28,33,60,75,91] ?_|(refine RS.aO ?_;refine rnx ?_)|(refine RS.aN ?_;refine rnx ?_)|(refine RS.l0 ?_;refine rnx ?_)|(refine RS.ls ?_;refine rnx ?_)|(refine RS.sE ?_;refine rnx ?_)|(refine RS.pk ?_;refine rnx ?_)|(refine RS.gF ?_;refine rnx ?_)|(refine RS.aE ?_;refine rnx ?_)|(refine RS.aK ?_;refine rnx ?_)|(refine RS.lC ?_;refine rnx ?_)|(refine RS.xC ?_;refine rnx ?_)|(refine RS.bC ?_;refine rnx ?_)|(refine stc (r1:=by first|exact c6|exact c7|exact d1|exact pAwake13) (r2:=?_);refine rnx ?_)|refine WP.cn (fun hc=>?_) (fun hc=>?_)|((first|refine WP.dw (id:=6) 25 [0,1,2,6,7,8,9,10,28,33,60,75,91] ?_);simp only [RQr_mk,List.drop_succ_cons,List.drop_zero,List.drop_nil])|fail)
      all_goals rfl
     | false =>
      have q1:=of_decide_eq_false e1
      have q2:=of_decide_eq_false e2
      have q3:=of_decide_eq_false e3
      rw [more_field h0 h2 a h3 ht (by omega) (by omega) q3] at d1
      replace fx:=And.intro hax (And.intro hsz (And.intro e1 (And.intro e2 (And.intro e3 (And.intro heq trivial)))))
      repeat' (first|refine stp [0,1,2,6,7,8,9,10,28,33,60,75,91] ?_|(refine RS.aO ?_;refine rnx ?_)|(refine RS.aN ?_;refine rnx ?_)|(refine RS.l0 ?_;refine rnx ?_)|(refine RS.ls ?_;refine rnx ?_)|(refine RS.sE ?_;refine rnx ?_)|(refine RS.pk ?_;refine rnx ?_)|(refine RS.gF ?_;refine rnx ?_)|(refine RS.aE ?_;refine rnx ?_)|(refine RS.aK ?_;refine rnx ?_)|(refine RS.lC ?_;refine rnx ?_)|(refine RS.xC ?_;refine rnx ?_)|(refine RS.bC ?_;refine rnx ?_)|(refine stc (r1:=by first|exact c6|exact c7|exact d1|exact pAwake13) (r2:=?_);refine rnx ?_)|refine WP.cn (fun hc=>?_) (fun hc=>?_)|((first|refine WP.dw (id:=6) 25 [0,1,2,6,7,8,9,10,28,33,60,75,91] ?_);simp only [RQr_mk,List.drop_succ_cons,List.drop_zero,List.drop_nil])|fail)
      all_goals rfl
theorem pMore (p:List Cs) (name:List UInt8) (a:Int) (hz:sumOf Cs.sz p≤1048576) (hn:name.length≤1048576):DPure Tryd.prog 3 [.a (.sl (p.map Cs.at)),.a (.v (.string (bs name))),.a (.v (.int .i64 a))] (.a (.v (.bool true))):=by
 by_cases h:(checkF p).1≠0∨heavyB p=true∨20≤p.length∨nameB name=false
 ·exact pMore0 p name a hz hn h
 ·refine pMore1 p name a hz hn ?_ ?_ ?_ ?_
  ·exact Classical.byContradiction fun q=>h (.inl q)
  ·cases q:heavyB p with
   | true=>exact absurd (.inr (.inl q)) h
   | false=>rfl
  ·exact Classical.byContradiction fun q=>h (.inr (.inr (.inl (by omega))))
  ·cases q:nameB name with
   | false=>exact absurd (.inr (.inr (.inr q))) h
   | true=>rfl
end Go.Proofs.YtibdalkdgjghoaaDoor
namespace Go.Proofs.YtibdalkdgjghoaaDoor
open Go.ChangeShapes Go.WideShapes Go.ChangeAt Go.RowKit Go.Joins
theorem tableMore_contract (H:Type) (enc:TypeId×Value→H) (W:World) (base:Nat) (args:Array Value) (ds gs:List (DataW H)) (before:List MemPlace)
  (hval0:∀(j:Nat) t v,Tryd.f3.params[j]? = some t→args[j]? = some v→Value.okWide Tryd.prog W .any base t v)
  (hW:DataW.Whole enc Tryd.prog Tryd.f3.params.toList Rows.tableMoreSpec.vars false W args.toList ds gs before) (hL:laidMetH Tryd.prog Rows.tableMoreRow.laid W) (hk:Rows.uptoBulkAll ds≤1048576) :
  Calls Tryd.prog 3 args W fun e W'=>∃v,e=.returned v∧Rows.tableMoreSpec.post enc Tryd.prog Tryd.f3 false true false false W args v W':=by
 have hw:=words_of hL
 have hval:=hval0
 have hW':=hW
 obtain⟨p,q,hA0,hV,rfl,_,_⟩:=hW
 have hA:DataW.TrodAll enc Tryd.prog W 0 (fun _=>true) true Tryd.f3.params.toList args.toList ds p:=hA0
 rw [Tryd.params3] at hA hval
 obtain⟨v0,v1,v2,d0,d1,d2,p0,p1,p2,rfl,rfl,rfl,⟨u0,h0⟩,⟨u1,h1⟩,⟨u2,h2⟩⟩:=trodAll_three hA
 obtain⟨rfl,rfl⟩:=trodVars_none hV
 obtain⟨l0,hr0,hz0⟩:=openPr u0 _ _ h0
 obtain⟨s1,rfl,rfl,rfl,hs1⟩:=Go.ChangeMaps.open_string Tryd.underlying9 (hval 1 9 v1 rfl rfl) ⟨u1,h1⟩
 obtain⟨i2,rfl,rfl,rfl,hi2⟩:=Go.ChangeShapes.open_int Tryd.underlying3 (hval 2 3 v2 rfl rfl) ⟨u2,h2⟩
 simp only [Rows.uptoBulkAll,Rows.uptoBulk] at hk
 simp only [Rows.uptoBulkAll] at hz0
 obtain⟨a0,n0,c0,rfl⟩:=okWide_slice Tryd.underlying22 (hval 0 22 v0 rfl rfl)
 have r0:RepC W (fun _=>False) (.sl (l0.map Cs.at)) (.slice a0 n0 c0):=hr0.2 0 _ rfl
 have hlaw:=(pMore l0 s1.data.toList i2 (by omega) (by omega)).2 W (fun _=>False) [.slice a0 n0 c0,.string s1,.int .i64 i2] (fun _ h=>h.elim) (fun w' hs hb=>?_) rfl (fun i d' hd=>?_)
 ·refine hlaw.mono fun e W' ⟨v,he,hg,hv⟩=>?_
  obtain⟨rfl,_⟩:=hv.v_inv
  subst he
  exact⟨_,rfl,law_end laidOut (by kernel_rfl) hW' rfl (by kernel_rfl) Tryd.underlying4 rfl hg.below⟩
 ·have hc:isC W 0:=cellsK (hw.at_ 0 [99,108,97,115,115] rfl)
  exact⟨by have:=hw.lt;omega,fun i x hx=>(World.cell?_of_block (a:=⟨0,_,none⟩) (hb 0 hw.lt (fun h=>h) hc)).trans (hw.at_ i x hx)⟩
 ·match i with
  | 0=>simp at hd;subst hd;exact .a _ _ r0.toOut
  | 1=>simp at hd;subst hd;exact .a _ _ (.c _ _ (.v _ rfl))
  | 2=>simp at hd;subst hd;exact .a _ _ (.c _ _ (.v _ rfl))
  | i+3=>simp at hd
end Go.Proofs.YtibdalkdgjghoaaDoor
