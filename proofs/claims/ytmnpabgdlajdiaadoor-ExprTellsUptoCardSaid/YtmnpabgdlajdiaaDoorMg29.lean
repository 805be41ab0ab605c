/- How great an expression is, as the document counts, on plain data. Conditions: at most 2^20 of anything. -/
import Derived.Test.YtmnpabgdlajdiaaDoorMg9
import Derived.Test.YtmnpabgdlajdiaaDoorMg18
import Derived.Test.YtmnpabgdlajdiaaDoorMg27
import Derived.Test.YtmnpabgdlajdiaaDoorMg28
set_option linter.unusedVariables false
set_option maxRecDepth 100000
set_option maxHeartbeats 8000000
set_option linter.unusedSimpArgs false
namespace Go.Proofs.YtmnpabgdlajdiaaDoor
open Go.RowKit
mutual
def bigE:Ex→Nat
 | ⟨_,_,_,l⟩=>bigK 1 l
def bigK (n:Nat):List Ex→Nat
 | []=>n
 | e::r=>if n<1000 then bigK (n+bigE e) r else n
end
theorem bigE_eq (e:Ex):bigE e=bigK 1 e.kids:=by obtain⟨k,n,s,l⟩:=e;rw [bigE]
mutual
theorem bigE_le:∀e:Ex,bigE e≤e.sz
 | ⟨k,n,s,l⟩=>by
  rw [bigE,Ex.sz]
  have:=bigK_le l 1
  omega
theorem bigK_le:∀(l:List Ex) (n:Nat),bigK n l≤n+Ex.szs l
 | [],n=>by rw [bigK];omega
 | e::r,n=>by
  rw [bigK,Ex.szs]
  split
  ·have h1:=bigE_le e
   have h2:=bigK_le r (n+bigE e)
   omega
  ·omega
end
theorem pr06Size:∀(n:Nat) (e:Ex),e.sz≤n→e.sz≤1048576→DPure Tryd.prog 4 [.r (Ex.at e)] (.a (.v (.int .i64 (bigE e:Nat))))
 | 0,e,h,_=>by have:=e.sz_pos;omega
 | n+1,e,h,hz=>by
  have IH:∀k∈e.kids,_:=fun k hk=>pr06Size n k (by have:=Ex.kid_lt hk;omega) (by have:=Ex.kid_lt hk;omega)
  have hsz:∀k∈e.kids,k.sz≤1048576:=fun k hk=>by have:=Ex.kid_lt hk;omega
  have hlen:e.kids.length≤1048576:=by have:=Ex.szs_len e.kids;have:=e.sz_eq;omega
  rw [bigE_eq]
  refine DPure.go Tryd.func4 rfl Tryd.ntmps4 rfl rfl rfl (fun C hro=>?_)
  have fx:=trivial
  repeat' (first|refine stp [0,1,2,3,4,13] ?_|(refine RS.pk ?_;refine rnx ?_)|(refine RS.gF ?_;refine rnx ?_)|(refine RS.lC ?_;refine rnx ?_)|(refine RS.xC ?_;refine rnx ?_)|refine WP.cn (fun hc=>?_) (fun hc=>?_)|fail)
  refine WP.loopX (α:={ y:Nat×Nat // y.1≤e.kids.length∧bigK 1 e.kids=bigK y.2 (e.kids.drop y.1) }) (fun y=>[(1,.a (.ptr 0 0)),(3,.a (.v (.int .i64 (y.1.2:Nat)))),(4,.a (.v (.int .i64 (y.1.1:Nat))))]) (fun _=>[.cell (Ex.at e)]) (fun y=>e.kids.length-y.1.1) ⟨(0,1),by omega,rfl⟩ (by simp only [Agree,go_sem,simprocAttr];first|done|rfl) rfl ?_
  rintro⟨⟨k,u⟩,hk,hinv⟩
  dsimp only at hk hinv ⊢
  by_cases hlt:k<e.kids.length
  ·have hlt2:decide ((k:Int)<((e.kids.length:Nat):Int))=true:=decide_eq_true (by omega)
   obtain⟨z,hz⟩:∃z,e.kids[k]? = some z:=⟨_,List.getElem?_eq_getElem hlt⟩
   have hzm:z∈e.kids:=List.mem_of_getElem? hz
   have hzt:=take_snocA hz
   have hix:∀q2,ixD (some 4) q2 (.a (.sl (e.kids.map Ex.at))) (.a (.v (.int .i64 (k:Int))))=some (.a (.ref (Ex.at z) 0)):=fun q2=>ixD_at rfl (by rw [List.getElem?_map,hz];rfl) (by simp only [go_sem])
   have hwu:=wrap64n (k:=k) (by omega)
   have hdr:e.kids.drop k=z::e.kids.drop (k+1):=by rw [List.drop_eq_getElem_cons hlt];congr 1;exact (List.getElem?_eq_some_iff.1 hz).2
   have hbz:=Nat.le_trans (bigE_le z) (hsz z hzm)
   have hIz:=IH z hzm
   rw [hdr,bigK] at hinv
   generalize bigE z=B at hinv hbz hIz
   clear IH
   by_cases hu:u<1000
   ·have hu2:decide ((u:Int)<1000)=true:=decide_eq_true (by omega)
    have hwb:IntKind.i64.wrap ((u:Int)+(B:Int))=((u+B:Nat):Int):=by rw [wrap64 (by omega) (by omega)];omega
    rw [if_pos hu] at hinv
    replace fx:=And.intro hlt2 (And.intro hix (And.intro hwu (And.intro hu2 (And.intro hwb trivial))))
    repeat' (first|refine stp [0,1,2,3,4,13] ?_|(refine RS.pk ?_;refine rnx ?_)|(refine RS.gF ?_;refine rnx ?_)|(refine RS.lC ?_;refine rnx ?_)|(refine RS.xC ?_;refine rnx ?_)|(refine stc (r1:=by exact hIz) (r2:=?_);refine rnx ?_)|refine WP.cn (fun hc=>?_) (fun hc=>?_)|fail)
    refine⟨⟨(k+1,u+B),by dsimp only;omega,hinv⟩,[],by dsimp only;omega,by simp only [Agree,go_sem,simprocAttr],rfl,by simp only [nrE,nrD,List.all_cons,List.all_nil,go_sem,simprocAttr],by simp only [go_sem,simprocAttr]⟩
   ·have hu2:decide ((u:Int)<1000)=false:=decide_eq_false (by omega)
    rw [if_neg hu] at hinv
    replace fx:=And.intro hlt2 (And.intro hu2 trivial)
    repeat' (first|refine stp [0,1,2,3,4,13] ?_|(refine RS.pk ?_;refine rnx ?_)|(refine RS.gF ?_;refine rnx ?_)|(refine RS.lC ?_;refine rnx ?_)|(refine RS.xC ?_;refine rnx ?_)|refine WP.cn (fun hc=>?_) (fun hc=>?_)|fail)
    rw [hinv]
  ·obtain rfl:k=e.kids.length:=by omega
   have hlt2:decide ((e.kids.length:Int)<(e.kids.length:Int))=false:=decide_eq_false (by omega)
   rw [List.drop_length,bigK] at hinv
   clear IH
   replace fx:=And.intro hlt2 trivial
   repeat' (first|refine stp [0,1,2,3,4,13] ?_|(refine RS.pk ?_;refine rnx ?_)|(refine RS.gF ?_;refine rnx ?_)|(refine RS.lC ?_;refine rnx ?_)|(refine RS.xC ?_;refine rnx ?_)|refine WP.cn (fun hc=>?_) (fun hc=>?_)|fail)
   rw [hinv]
theorem Ex.same_refl:∀(m:Nat) (e:Ex),e.sz≤m→e.sameB e=true
 | 0,e,h=>by have:=e.sz_pos;omega
 | m+1,e,h=>by
  have hk:∀l:List Ex,(∀k∈l,k.sz≤m)→Ex.samesB l l=true:=by
   intro l
   induction l with
   | nil=>intro _;rfl
   | cons x r ih=>intro hl;rw [Ex.samesB,Ex.same_refl m x (hl x (by simp)),ih fun k hk=>hl k (by simp [hk])];rfl
  rw [Ex.same_eq,hk e.kids fun k hk=>by have:=Ex.kid_lt hk;omega]
  simp
theorem pLaw06 (e d:Ex) (hz:e.sz≤1048576) (hd:d.sz≤1048576):DPure Tryd.prog 3 [.r (Ex.at e),.r (Ex.at d)] (.a (.v (.bool true))):=by
 have h1:=pr06Size _ e (Nat.le_refl _) hz
 have h2:=pr06Size _ d (Nat.le_refl _) hd
 have h3:=peNames e hz
 have h4:=pr06Names _ e (Nat.le_refl _) hz
 have h5:=peRight e hz
 have h6:=pERight e hz
 have h7:=peTextX e hz
 have h8:=pr06Text e hz
 have h9:=peSame _ e d (Nat.le_refl _) hz
 have h10:=pESame _ e d (Nat.le_refl _) hz
 have h11:DPure Tryd.prog 12 [.r (Ex.at e),.r (Ex.at e)] (.a (.v (.bool true))):=by
  have:=peSame _ e e (Nat.le_refl _) hz
  rwa [Ex.same_refl _ e (Nat.le_refl _)] at this
 have h12:=aw06
 have hnl:e.nms.length≤1048576:=Nat.le_trans (Ex.nms_len e) hz
 have e1:(bigE e:Int)>200∨¬(bigE e:Int)>200:=Classical.em _
 have e2:(bigE d:Int)>200∨¬(bigE d:Int)>200:=Classical.em _
 have hne:((e.nms.map strAt).length != (e.nms.map strAt).length)=false:=by simp
 rcases e1 with e1|e1
 ·have g1:=decide_eq_true e1
  refine DPure.go Tryd.func3 rfl Tryd.ntmps3 rfl rfl rfl (fun C hro=>?_)
  have fx:=trivial
  replace fx:=And.intro g1 trivial
  repeat' (first|refine stp [0,1,2,3,4,5,6,7,15,25,29,40] ?_|(refine RS.pk ?_;refine rnx ?_)|(refine RS.gF ?_;refine rnx ?_)|(refine RS.lC ?_;refine rnx ?_)|(refine RS.xC ?_;refine rnx ?_)|(refine stc (r1:=by first|exact h1|exact h2|exact h12) (r2:=?_);refine rnx ?_)|refine WP.cn (fun hc=>?_) (fun hc=>?_)|((first|refine WP.dw (id:=3) 6 [0,1,2,3,4,5,6,7,15,25,29,40] ?_|refine WP.dw (id:=9) 9 [0,1,2,3,4,5,6,7,15,25,29,40] ?_|refine WP.dw (id:=11) 30 [0,1,2,3,4,5,6,7,15,25,29,40] ?_);simp only [RQr_mk,List.drop_succ_cons,List.drop_zero,List.drop_nil])|fail)
  rfl
 rcases e2 with e2|e2
 ·have g1:=decide_eq_false e1
  have g2:=decide_eq_true e2
  refine DPure.go Tryd.func3 rfl Tryd.ntmps3 rfl rfl rfl (fun C hro=>?_)
  have fx:=trivial
  replace fx:=And.intro g1 (And.intro g2 trivial)
  repeat' (first|refine stp [0,1,2,3,4,5,6,7,15,25,29,40] ?_|(refine RS.pk ?_;refine rnx ?_)|(refine RS.gF ?_;refine rnx ?_)|(refine RS.lC ?_;refine rnx ?_)|(refine RS.xC ?_;refine rnx ?_)|(refine stc (r1:=by first|exact h1|exact h2|exact h12) (r2:=?_);refine rnx ?_)|refine WP.cn (fun hc=>?_) (fun hc=>?_)|((first|refine WP.dw (id:=3) 6 [0,1,2,3,4,5,6,7,15,25,29,40] ?_|refine WP.dw (id:=9) 9 [0,1,2,3,4,5,6,7,15,25,29,40] ?_|refine WP.dw (id:=11) 30 [0,1,2,3,4,5,6,7,15,25,29,40] ?_);simp only [RQr_mk,List.drop_succ_cons,List.drop_zero,List.drop_nil])|fail)
  rfl
 have g1:=decide_eq_false e1
 have g2:=decide_eq_false e2
 have k1:(e.rightB==e.rightB)=true:=by simp
 have k2:(e.txS==e.txS)=true:=by simp
 have k3:(e.sameB d==e.sameB d)=true:=by simp
 generalize e.nms=N at h3 h4 hnl
 generalize e.rightB=rb at h5 h6 k1
 generalize e.txS=tx at h7 h8 k2
 generalize e.sameB d=sb at h9 h10 k3
 have hne2:((N.length:Int) != (N.length:Int))=false:=by simp
 refine DPure.go Tryd.func3 rfl Tryd.ntmps3 rfl rfl rfl (fun C hro=>?_)
 have fx:=trivial
 replace fx:=And.intro g1 (And.intro g2 (And.intro hne2 trivial))
 repeat' (first|refine stp [0,1,2,3,4,5,6,7,15,25,29,40] ?_|(refine RS.pk ?_;refine rnx ?_)|(refine RS.gF ?_;refine rnx ?_)|(refine RS.lC ?_;refine rnx ?_)|(refine RS.xC ?_;refine rnx ?_)|(refine stc (r1:=by first|exact h1|exact h2|exact h3|exact h4) (r2:=?_);refine rnx ?_)|refine WP.cn (fun hc=>?_) (fun hc=>?_)|((first|refine WP.dw (id:=3) 6 [0,1,2,3,4,5,6,7,15,25,29,40] ?_|refine WP.dw (id:=9) 9 [0,1,2,3,4,5,6,7,15,25,29,40] ?_|refine WP.dw (id:=11) 30 [0,1,2,3,4,5,6,7,15,25,29,40] ?_);simp only [RQr_mk,List.drop_succ_cons,List.drop_zero,List.drop_nil])|fail)
 refine WP.each N strAt 1 (fun k=>[(2,.a (.ptr 0 0)),(3,.a (.ptr 1 0)),(5,.a (.sl (N.map strAt))),(6,.a (.sl (N.map strAt))),(7,.a (.v (.int .i64 (k:Nat))))]) (fun _=>[.cell (Ex.at e),.cell (Ex.at d)]) (fun _=>True) (by simp only [Agree,go_sem,simprocAttr];first|done|rfl) rfl trivial (by omega) (fun z=>rfl) ?_ ?_
 ·intro k z hz1 hdr htk hlt _ hlt2 hix hwu
  have hzz:(z==z)=true:=by simp
  replace fx:=And.intro hlt2 (And.intro hix (And.intro hwu (And.intro hzz trivial)))
  repeat' (first|refine stp [0,1,2,3,4,5,6,7,15,25,29,40] ?_|(refine RS.pk ?_;refine rnx ?_)|(refine RS.gF ?_;refine rnx ?_)|(refine RS.lC ?_;refine rnx ?_)|(refine RS.xC ?_;refine rnx ?_)|refine WP.cn (fun hc=>?_) (fun hc=>?_)|((first|refine WP.dw (id:=3) 6 [0,1,2,3,4,5,6,7,15,25,29,40] ?_|refine WP.dw (id:=9) 9 [0,1,2,3,4,5,6,7,15,25,29,40] ?_|refine WP.dw (id:=11) 30 [0,1,2,3,4,5,6,7,15,25,29,40] ?_);simp only [RQr_mk,List.drop_succ_cons,List.drop_zero,List.drop_nil])|fail)
  exact⟨trivial,[],by simp only [Agree,go_sem,simprocAttr],rfl,rfl,by simp only [go_sem,simprocAttr,nr_of_cl (Ex.cl e),nr_of_cl (Ex.cl d)]⟩
 ·intro _ hlt2
  replace fx:=And.intro hlt2 (And.intro k1 (And.intro k2 (And.intro k3 trivial)))
  repeat' (first|refine stp [0,1,2,3,4,5,6,7,15,25,29,40] ?_|(refine RS.pk ?_;refine rnx ?_)|(refine RS.gF ?_;refine rnx ?_)|(refine RS.lC ?_;refine rnx ?_)|(refine RS.xC ?_;refine rnx ?_)|(refine stc (r1:=by first|exact h5|exact h6|exact h7|exact h8|exact h9|exact h10|exact h11|exact h12) (r2:=?_);refine rnx ?_)|refine WP.cn (fun hc=>?_) (fun hc=>?_)|((first|refine WP.dw (id:=3) 6 [0,1,2,3,4,5,6,7,15,25,29,40] ?_|refine WP.dw (id:=9) 9 [0,1,2,3,4,5,6,7,15,25,29,40] ?_|refine WP.dw (id:=11) 30 [0,1,2,3,4,5,6,7,15,25,29,40] ?_);simp only [RQr_mk,List.drop_succ_cons,List.drop_zero,List.drop_nil])|fail)
  rfl
end Go.Proofs.YtmnpabgdlajdiaaDoor
