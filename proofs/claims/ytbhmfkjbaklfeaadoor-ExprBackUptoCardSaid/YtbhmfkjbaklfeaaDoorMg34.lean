/- How great an expression is, as the document counts, on plain data. Conditions: at most 2^20 of anything. -/
import Derived.Test.YtbhmfkjbaklfeaaDoorMg9
import Derived.Test.YtbhmfkjbaklfeaaDoorMg18
import Derived.Test.YtbhmfkjbaklfeaaDoorMg29
import Derived.Test.YtbhmfkjbaklfeaaDoorMg32
import Derived.Test.YtbhmfkjbaklfeaaDoorMg12
import Derived.Test.YtbhmfkjbaklfeaaDoorMg33
set_option linter.unusedVariables false
set_option maxRecDepth 100000
set_option maxHeartbeats 8000000
set_option linter.unusedSimpArgs false
namespace Go.Proofs.YtbhmfkjbaklfeaaDoor
open Go.RowKit
mutual
def bigE:Ex→Nat
 | ⟨_,_,_,l⟩=>bigK 1 l
def bigK (n:Nat):List Ex→Nat
 | []=>n
 | e::r=>if n<1000 then bigK (n+bigE e) r else n
end
theorem bigE_eq (e:Ex):bigE e=bigK 1 e.kids:=by obtain⟨k,n,s,l⟩:=e;rw [bigE]
mutual
theorem bigE_le:∀e:Ex,bigE e≤e.sz
 | ⟨k,n,s,l⟩=>by
  rw [bigE,Ex.sz]
  have:=bigK_le l 1
  omega
theorem bigK_le:∀(l:List Ex) (n:Nat),bigK n l≤n+Ex.szs l
 | [],n=>by rw [bigK];omega
 | e::r,n=>by
  rw [bigK,Ex.szs]
  split
  ·have h1:=bigE_le e
   have h2:=bigK_le r (n+bigE e)
   omega
  ·omega
end
theorem pr06Size:∀(n:Nat) (e:Ex),e.sz≤n→e.sz≤1048576→DPure Tryd.prog 4 [.r (Ex.at e)] (.a (.v (.int .i64 (bigE e:Nat))))
 | 0,e,h,_=>by have:=e.sz_pos;omega
 | n+1,e,h,hz=>by
  have IH:∀k∈e.kids,_:=fun k hk=>pr06Size n k (by have:=Ex.kid_lt hk;omega) (by have:=Ex.kid_lt hk;omega)
  have hsz:∀k∈e.kids,k.sz≤1048576:=fun k hk=>by have:=Ex.kid_lt hk;omega
  have hlen:e.kids.length≤1048576:=by have:=Ex.szs_len e.kids;have:=e.sz_eq;omega
  rw [bigE_eq]
  refine DPure.go Tryd.func4 rfl Tryd.ntmps4 rfl rfl rfl (fun C hro=>?_)
  have fx:=trivial
  repeat' (first|refine stp [0,1,2,3,4,13] ?_|(refine RS.pk ?_;refine rnx ?_)|(refine RS.gF ?_;refine rnx ?_)|(refine RS.lC ?_;refine rnx ?_)|(refine RS.xC ?_;refine rnx ?_)|refine WP.cn (fun hc=>?_) (fun hc=>?_)|fail)
  refine WP.loopX (α:={ y:Nat×Nat // y.1≤e.kids.length∧bigK 1 e.kids=bigK y.2 (e.kids.drop y.1) }) (fun y=>[(1,.a (.ptr 0 0)),(3,.a (.v (.int .i64 (y.1.2:Nat)))),(4,.a (.v (.int .i64 (y.1.1:Nat))))]) (fun _=>[.cell (Ex.at e)]) (fun y=>e.kids.length-y.1.1) ⟨(0,1),by omega,rfl⟩ (by simp only [Agree,go_sem,simprocAttr];first|done|rfl) rfl ?_
  rintro⟨⟨k,u⟩,hk,hinv⟩
  dsimp only at hk hinv ⊢
  by_cases hlt:k<e.kids.length
  ·have hlt2:decide ((k:Int)<((e.kids.length:Nat):Int))=true:=decide_eq_true (by omega)
   obtain⟨z,hz⟩:∃z,e.kids[k]? = some z:=⟨_,List.getElem?_eq_getElem hlt⟩
   have hzm:z∈e.kids:=List.mem_of_getElem? hz
   have hzt:=take_snocA hz
   have hix:∀q2,ixD (some 4) q2 (.a (.sl (e.kids.map Ex.at))) (.a (.v (.int .i64 (k:Int))))=some (.a (.ref (Ex.at z) 0)):=fun q2=>ixD_at rfl (by rw [List.getElem?_map,hz];rfl) (by simp only [go_sem])
   have hwu:=wrap64n (k:=k) (by omega)
   have hdr:e.kids.drop k=z::e.kids.drop (k+1):=by rw [List.drop_eq_getElem_cons hlt];congr 1;exact (List.getElem?_eq_some_iff.1 hz).2
   have hbz:=Nat.le_trans (bigE_le z) (hsz z hzm)
   have hIz:=IH z hzm
   rw [hdr,bigK] at hinv
   generalize bigE z=B at hinv hbz hIz
   clear IH
   by_cases hu:u<1000
   ·have hu2:decide ((u:Int)<1000)=true:=decide_eq_true (by omega)
    have hwb:IntKind.i64.wrap ((u:Int)+(B:Int))=((u+B:Nat):Int):=by rw [wrap64 (by omega) (by omega)];omega
    rw [if_pos hu] at hinv
    replace fx:=And.intro hlt2 (And.intro hix (And.intro hwu (And.intro hu2 (And.intro hwb trivial))))
    repeat' (first|refine stp [0,1,2,3,4,13] ?_|(refine RS.pk ?_;refine rnx ?_)|(refine RS.gF ?_;refine rnx ?_)|(refine RS.lC ?_;refine rnx ?_)|(refine RS.xC ?_;refine rnx ?_)|(refine stc (r1:=by exact hIz) (r2:=?_);refine rnx ?_)|refine WP.cn (fun hc=>?_) (fun hc=>?_)|fail)
    refine⟨⟨(k+1,u+B),by dsimp only;omega,hinv⟩,[],by dsimp only;omega,by simp only [Agree,go_sem,simprocAttr],rfl,by simp only [nrE,nrD,List.all_cons,List.all_nil,go_sem,simprocAttr],by simp only [go_sem,simprocAttr]⟩
   ·have hu2:decide ((u:Int)<1000)=false:=decide_eq_false (by omega)
    rw [if_neg hu] at hinv
    replace fx:=And.intro hlt2 (And.intro hu2 trivial)
    repeat' (first|refine stp [0,1,2,3,4,13] ?_|(refine RS.pk ?_;refine rnx ?_)|(refine RS.gF ?_;refine rnx ?_)|(refine RS.lC ?_;refine rnx ?_)|(refine RS.xC ?_;refine rnx ?_)|refine WP.cn (fun hc=>?_) (fun hc=>?_)|fail)
    rw [hinv]
  ·obtain rfl:k=e.kids.length:=by omega
   have hlt2:decide ((e.kids.length:Int)<(e.kids.length:Int))=false:=decide_eq_false (by omega)
   rw [List.drop_length,bigK] at hinv
   clear IH
   replace fx:=And.intro hlt2 trivial
   repeat' (first|refine stp [0,1,2,3,4,13] ?_|(refine RS.pk ?_;refine rnx ?_)|(refine RS.gF ?_;refine rnx ?_)|(refine RS.lC ?_;refine rnx ?_)|(refine RS.xC ?_;refine rnx ?_)|refine WP.cn (fun hc=>?_) (fun hc=>?_)|fail)
   rw [hinv]
theorem RS.q2 {P:Program} {C:Cx P} {ops:Array Oper} {r:List Oper} {e:Nat→D} {st:List Bx} {K:(Nat→D)→List Bx→Prop} {dst:Option Nat} {op:Op} {ty:TypeId} {pos:String} {after:Array Edge} {guard:Option (Nat×Bool)} {d:D} (k:RS C ops r (putE e dst d) st K) (h:evQ P st e ⟨dst,op,ty,pos,after,guard⟩=some d:=by (simp only [go_sem,simprocAttr,fx])<;>rfl):RS C ops (⟨dst,op,ty,pos,after,guard⟩::r) e st K:=RS.q1 h k
theorem Ex.same_refl:∀(m:Nat) (e:Ex),e.sz≤m→e.sameB e=true
 | 0,e,h=>by have:=e.sz_pos;omega
 | m+1,e,h=>by
  have hk:∀l:List Ex,(∀k∈l,k.sz≤m)→Ex.samesB l l=true:=by
   intro l
   induction l with
   | nil=>intro _;rfl
   | cons x r ih=>intro hl;rw [Ex.samesB,Ex.same_refl m x (hl x (by simp)),ih fun k hk=>hl k (by simp [hk])];rfl
  rw [Ex.same_eq,hk e.kids fun k hk=>by have:=Ex.kid_lt hk;omega]
  simp
theorem same_me (e:Ex) (hz:e.sz≤1048576):DPure Tryd.prog 9 [.r (Ex.at e),.r (Ex.at e)] (.a (.v (.bool true))):=by
 have:=peSame _ e e (Nat.le_refl _) hz
 rwa [Ex.same_refl _ e (Nat.le_refl _)] at this
theorem pLawB0 (e:Ex) (s:List UInt8) (hz:e.sz≤1048576) (hb:(bigE e:Int)>200∨(s.length:Int)>400):DPure Tryd.prog 3 [.r (Ex.at e),.a (.v (.string (bs s)))] (.a (.v (.bool true))):=by
 have h1:=pr06Size _ e (Nat.le_refl _) hz
 have h12:=aw06
 by_cases e1:(bigE e:Int)>200
 ·have g1:=decide_eq_true e1
  refine DPure.go Tryd.func3 rfl Tryd.ntmps3 rfl rfl rfl (fun C hro=>?_)
  have fx:=trivial
  replace fx:=And.intro g1 trivial
  repeat' (first|refine stp [0,1,2,4,5,6,7,8,9,10,11,12,13,14,15,23,32,71,74,90] ?_|(refine RS.sE ?_;refine rnx ?_)|(refine RS.pk ?_;refine rnx ?_)|(refine RS.gF ?_;refine rnx ?_)|(refine RS.lC ?_;refine rnx ?_)|(refine stc (r1:=by first|exact h1|exact h12) (r2:=?_);refine rnx ?_)|(refine RS.q2 ?_;refine rnx ?_)|refine WP.cn (fun hc=>?_) (fun hc=>?_)|fail)
  rfl
 ·have g1:=decide_eq_false e1
  have g2:decide (((bs s).size:Int)>400)=true:=decide_eq_true (by rw [bs_size];exact hb.resolve_left e1)
  refine DPure.go Tryd.func3 rfl Tryd.ntmps3 rfl rfl rfl (fun C hro=>?_)
  have fx:=trivial
  replace fx:=And.intro g1 (And.intro g2 trivial)
  repeat' (first|refine stp [0,1,2,4,5,6,7,8,9,10,11,12,13,14,15,23,32,71,74,90] ?_|(refine RS.sE ?_;refine rnx ?_)|(refine RS.pk ?_;refine rnx ?_)|(refine RS.gF ?_;refine rnx ?_)|(refine RS.lC ?_;refine rnx ?_)|(refine stc (r1:=by first|exact h1|exact h12) (r2:=?_);refine rnx ?_)|(refine RS.q2 ?_;refine rnx ?_)|refine WP.cn (fun hc=>?_) (fun hc=>?_)|fail)
  rfl
theorem pLawBA (e:Ex) (s:List UInt8) (hz:e.sz≤1048576) (hs:s.length≤1048576) (e1:¬(bigE e:Int)>200) (e2:¬(s.length:Int)>400) (hA:(tokOf s).2.1≠0):DPure Tryd.prog 3 [.r (Ex.at e),.a (.v (.string (bs s)))] (.a (.v (.bool true))):=by
 have h1:=pr06Size _ e (Nat.le_refl _) hz
 have h12:=aw06
 have g1:=decide_eq_false e1
 have g2:decide (((bs s).size:Int)>400)=false:=decide_eq_false (by rw [bs_size];exact e2)
 have pe:[A.v (.int .i64 0),.v (.int .i64 0),.v (.string ⟨#[]⟩),.sl []]=Ex.at Ex.zero:=Ex.litZ 0 0
 have hO:=pOf s (by omega)
 have f1:((((tokOf s).2.1:Nat):Int)==0)=false:=by simpa using hA
 generalize (tokOf s).1=L at *
 generalize (tokOf s).2.1=er at *
 generalize (tokOf s).2.2=fa at *
 have hR:=peRight e hz
 have hX:=peTextX e hz
 unfold Ex.txS at hX
 cases hr:e.rightB
 ·rw [hr,if_neg (by decide)] at hX
  rw [hr] at hR
  replace hX:DPure Tryd.prog 10 [.r (Ex.at e)] (.a (.v (.string ⟨#[]⟩))):=hX
  refine DPure.go Tryd.func3 rfl Tryd.ntmps3 rfl rfl rfl (fun C hro=>?_)
  have fx:=trivial
  replace fx:=And.intro g1 (And.intro g2 (And.intro pe (And.intro f1 trivial)))
  repeat' (first|refine stp [0,1,2,4,5,6,7,8,9,10,11,12,13,14,15,23,32,71,74,90] ?_|(refine RS.sE ?_;refine rnx ?_)|(refine RS.pk ?_;refine rnx ?_)|(refine RS.gF ?_;refine rnx ?_)|(refine RS.lC ?_;refine rnx ?_)|(refine stc (r1:=by first|exact h1|exact hO|exact hX|exact hR|exact h12) (r2:=?_);refine rnx ?_)|(refine RS.q2 ?_;refine rnx ?_)|refine WP.cn (fun hc=>?_) (fun hc=>?_)|fail)
  rfl
 ·rw [hr,if_pos rfl] at hX
  rw [hr] at hR
  have hf:e.formB=true:=by unfold Ex.rightB at hr;rw [Bool.and_eq_true] at hr;exact hr.1
  have hlen:=Ex.txt_len _ e (Nat.le_refl _) hf
  have hP:=pOf (e.txt dgN) (by omega)
  have hS:=same_me e hz
  by_cases hl:(e.txt dgN).length≤16384
  ·obtain⟨n,k1,k2,k3,k4⟩:=par_txt e hr hl
   rw [k1] at hP
   replace hP:DPure Tryd.prog 6 [.a (.v (.string (bs (e.txt dgN))))] (.t [.a (.sl ((tokOf (e.txt dgN)).1.map Tok.at)),.r (ftR 0 0)]):=hP
   generalize e.txt dgN=tx at *
   generalize (tokOf tx).1=M at *
   have w1:IntKind.i64.wrap ((M.length:Int)-1)=(n:Int):=(wrap64 (by omega) (by omega)).trans (by omega)
   have w2:(((n:Nat):Int)==(n:Int))=true:=by simp
   refine DPure.go Tryd.func3 rfl Tryd.ntmps3 rfl rfl rfl (fun C hro=>?_)
   have fx:=trivial
   replace fx:=And.intro g1 (And.intro g2 (And.intro pe (And.intro w1 (And.intro w2 (And.intro f1 trivial)))))
   repeat' (first|refine stp [0,1,2,4,5,6,7,8,9,10,11,12,13,14,15,23,32,71,74,90] ?_|(refine RS.sE ?_;refine rnx ?_)|(refine RS.pk ?_;refine rnx ?_)|(refine RS.gF ?_;refine rnx ?_)|(refine RS.lC ?_;refine rnx ?_)|(refine stc (r1:=by first|exact h1|exact hO|exact hP|exact hX|exact hR|exact hS|exact k4|exact h12) (r2:=?_);refine rnx ?_)|(refine RS.q2 ?_;refine rnx ?_)|refine WP.cn (fun hc=>?_) (fun hc=>?_)|fail)
   rfl
  ·have hT:tokOf (e.txt dgN)=([],6,0):=by unfold tokOf;rw [if_pos (by omega)]
   have g3:decide (((bs (e.txt dgN)).size:Int)>16384)=true:=decide_eq_true (by rw [bs_size];omega)
   rw [hT] at hP
   replace hP:DPure Tryd.prog 6 [.a (.v (.string (bs (e.txt dgN))))] (.t [.a (.sl []),.r (ftR 6 0)]):=hP
   generalize e.txt dgN=tx at *
   refine DPure.go Tryd.func3 rfl Tryd.ntmps3 rfl rfl rfl (fun C hro=>?_)
   have fx:=trivial
   replace fx:=And.intro g1 (And.intro g2 (And.intro g3 (And.intro pe (And.intro f1 trivial))))
   repeat' (first|refine stp [0,1,2,4,5,6,7,8,9,10,11,12,13,14,15,23,32,71,74,90] ?_|(refine RS.sE ?_;refine rnx ?_)|(refine RS.pk ?_;refine rnx ?_)|(refine RS.gF ?_;refine rnx ?_)|(refine RS.lC ?_;refine rnx ?_)|(refine stc (r1:=by first|exact h1|exact hO|exact hP|exact hX|exact hR|exact h12) (r2:=?_);refine rnx ?_)|(refine RS.q2 ?_;refine rnx ?_)|refine WP.cn (fun hc=>?_) (fun hc=>?_)|fail)
   rfl
theorem pLawBB (e:Ex) (s:List UInt8) (hz:e.sz≤1048576) (hs:s.length≤1048576) (e1:¬(bigE e:Int)>200) (e2:¬(s.length:Int)>400) (hA:(tokOf s).2.1=0):DPure Tryd.prog 3 [.r (Ex.at e),.a (.v (.string (bs s)))] (.a (.v (.bool true))):=by
 have h1:=pr06Size _ e (Nat.le_refl _) hz
 have h12:=aw06
 have g1:=decide_eq_false e1
 have g2:decide (((bs s).size:Int)>400)=false:=decide_eq_false (by rw [bs_size];exact e2)
 have pe:[A.v (.int .i64 0),.v (.int .i64 0),.v (.string ⟨#[]⟩),.sl []]=Ex.at Ex.zero:=Ex.litZ 0 0
 have hO:=pOf s (by omega)
 obtain⟨r,q1,q2,q3,q4⟩:=par_any s hA
 rw [q1] at hO
 replace hO:DPure Tryd.prog 6 [.a (.v (.string (bs s)))] (.t [.a (.sl ((tokOf s).1.map Tok.at)),.r (ftR 0 0)]):=hO
 generalize (tokOf s).1=L at *
 obtain⟨x,ok,st⟩:=r
 dsimp only at q4
 rcases q4 with ⟨hk,q5,q6,q7,q8⟩|⟨hk,q5⟩
 ·subst hk
  have hRx:=peRight x.e q8
  rw [q5] at hRx
  have hSx:=peSame _ x.e Ex.zero (Nat.le_refl _) q8
  have f1:decide (st.at_<1)=false:=decide_eq_false (by omega)
  have f2:decide (st.at_≥(L.length:Int))=false:=decide_eq_false (by omega)
  replace q3:DPure Tryd.prog 7 [.a (.sl (L.map Tok.at)),.a (.v (.int .i64 0))] (.t [.r (Ex.at x.e),.a (.v (.int .i64 st.at_)),.r (ftR 0 0)]):=q3
  generalize st.at_=at_ at *
  generalize x.e=xe at *
  have hR:=peRight e hz
  have hX:=peTextX e hz
  unfold Ex.txS at hX
  cases hr:e.rightB
  ·rw [hr,if_neg (by decide)] at hX
   rw [hr] at hR
   replace hX:DPure Tryd.prog 10 [.r (Ex.at e)] (.a (.v (.string ⟨#[]⟩))):=hX
   refine DPure.go Tryd.func3 rfl Tryd.ntmps3 rfl rfl rfl (fun C hro=>?_)
   have fx:=trivial
   replace fx:=And.intro g1 (And.intro g2 (And.intro pe (And.intro f1 (And.intro f2 trivial))))
   repeat' (first|refine stp [0,1,2,4,5,6,7,8,9,10,11,12,13,14,15,23,32,71,74,90] ?_|(refine RS.sE ?_;refine rnx ?_)|(refine RS.pk ?_;refine rnx ?_)|(refine RS.gF ?_;refine rnx ?_)|(refine RS.lC ?_;refine rnx ?_)|(refine stc (r1:=by first|exact h1|exact hO|exact hX|exact hR|exact h12|exact q3|exact hRx|exact hSx) (r2:=?_);refine rnx ?_)|(refine RS.q2 ?_;refine rnx ?_)|refine WP.cn (fun hc=>?_) (fun hc=>?_)|fail)
   rfl
  ·rw [hr,if_pos rfl] at hX
   rw [hr] at hR
   have hf:e.formB=true:=by unfold Ex.rightB at hr;rw [Bool.and_eq_true] at hr;exact hr.1
   have hlen:=Ex.txt_len _ e (Nat.le_refl _) hf
   have hP:=pOf (e.txt dgN) (by omega)
   have hS:=same_me e hz
   by_cases hl:(e.txt dgN).length≤16384
   ·obtain⟨n,k1,k2,k3,k4⟩:=par_txt e hr hl
    rw [k1] at hP
    replace hP:DPure Tryd.prog 6 [.a (.v (.string (bs (e.txt dgN))))] (.t [.a (.sl ((tokOf (e.txt dgN)).1.map Tok.at)),.r (ftR 0 0)]):=hP
    generalize e.txt dgN=tx at *
    generalize (tokOf tx).1=M at *
    have w1:IntKind.i64.wrap ((M.length:Int)-1)=(n:Int):=(wrap64 (by omega) (by omega)).trans (by omega)
    have w2:(((n:Nat):Int)==(n:Int))=true:=by simp
    refine DPure.go Tryd.func3 rfl Tryd.ntmps3 rfl rfl rfl (fun C hro=>?_)
    have fx:=trivial
    replace fx:=And.intro g1 (And.intro g2 (And.intro pe (And.intro w1 (And.intro w2 (And.intro f1 (And.intro f2 trivial))))))
    repeat' (first|refine stp [0,1,2,4,5,6,7,8,9,10,11,12,13,14,15,23,32,71,74,90] ?_|(refine RS.sE ?_;refine rnx ?_)|(refine RS.pk ?_;refine rnx ?_)|(refine RS.gF ?_;refine rnx ?_)|(refine RS.lC ?_;refine rnx ?_)|(refine stc (r1:=by first|exact h1|exact hO|exact hP|exact hX|exact hR|exact hS|exact k4|exact h12|exact q3|exact hRx|exact hSx) (r2:=?_);refine rnx ?_)|(refine RS.q2 ?_;refine rnx ?_)|refine WP.cn (fun hc=>?_) (fun hc=>?_)|fail)
    rfl
   ·have hT:tokOf (e.txt dgN)=([],6,0):=by unfold tokOf;rw [if_pos (by omega)]
    have g3:decide (((bs (e.txt dgN)).size:Int)>16384)=true:=decide_eq_true (by rw [bs_size];omega)
    rw [hT] at hP
    replace hP:DPure Tryd.prog 6 [.a (.v (.string (bs (e.txt dgN))))] (.t [.a (.sl []),.r (ftR 6 0)]):=hP
    generalize e.txt dgN=tx at *
    refine DPure.go Tryd.func3 rfl Tryd.ntmps3 rfl rfl rfl (fun C hro=>?_)
    have fx:=trivial
    replace fx:=And.intro g1 (And.intro g2 (And.intro g3 (And.intro pe (And.intro f1 (And.intro f2 trivial)))))
    repeat' (first|refine stp [0,1,2,4,5,6,7,8,9,10,11,12,13,14,15,23,32,71,74,90] ?_|(refine RS.sE ?_;refine rnx ?_)|(refine RS.pk ?_;refine rnx ?_)|(refine RS.gF ?_;refine rnx ?_)|(refine RS.lC ?_;refine rnx ?_)|(refine stc (r1:=by first|exact h1|exact hO|exact hP|exact hX|exact hR|exact h12|exact q3|exact hRx|exact hSx) (r2:=?_);refine rnx ?_)|(refine RS.q2 ?_;refine rnx ?_)|refine WP.cn (fun hc=>?_) (fun hc=>?_)|fail)
    rfl
 ·subst hk
  have hSz:=same_me Ex.zero (by decide)
  have f1:(st.err==0)=false:=by simp;omega
  have f2:(st.err != 0)=true:=by simp;omega
  replace q3:DPure Tryd.prog 7 [.a (.sl (L.map Tok.at)),.a (.v (.int .i64 0))] (.t [.r (Ex.at Ex.zero),.a (.v (.int .i64 0)),.r (ftR st.err st.fat)]):=q3
  generalize st.err=er at *
  generalize st.fat=fa at *
  have hR:=peRight e hz
  have hX:=peTextX e hz
  unfold Ex.txS at hX
  cases hr:e.rightB
  ·rw [hr,if_neg (by decide)] at hX
   rw [hr] at hR
   replace hX:DPure Tryd.prog 10 [.r (Ex.at e)] (.a (.v (.string ⟨#[]⟩))):=hX
   refine DPure.go Tryd.func3 rfl Tryd.ntmps3 rfl rfl rfl (fun C hro=>?_)
   have fx:=trivial
   replace fx:=And.intro g1 (And.intro g2 (And.intro pe (And.intro f1 (And.intro f2 trivial))))
   repeat' (first|refine stp [0,1,2,4,5,6,7,8,9,10,11,12,13,14,15,23,32,71,74,90] ?_|(refine RS.sE ?_;refine rnx ?_)|(refine RS.pk ?_;refine rnx ?_)|(refine RS.gF ?_;refine rnx ?_)|(refine RS.lC ?_;refine rnx ?_)|(refine stc (r1:=by first|exact h1|exact hO|exact hX|exact hR|exact h12|exact q3|exact hSz) (r2:=?_);refine rnx ?_)|(refine RS.q2 ?_;refine rnx ?_)|refine WP.cn (fun hc=>?_) (fun hc=>?_)|fail)
   rfl
  ·rw [hr,if_pos rfl] at hX
   rw [hr] at hR
   have hf:e.formB=true:=by unfold Ex.rightB at hr;rw [Bool.and_eq_true] at hr;exact hr.1
   have hlen:=Ex.txt_len _ e (Nat.le_refl _) hf
   have hP:=pOf (e.txt dgN) (by omega)
   have hS:=same_me e hz
   by_cases hl:(e.txt dgN).length≤16384
   ·obtain⟨n,k1,k2,k3,k4⟩:=par_txt e hr hl
    rw [k1] at hP
    replace hP:DPure Tryd.prog 6 [.a (.v (.string (bs (e.txt dgN))))] (.t [.a (.sl ((tokOf (e.txt dgN)).1.map Tok.at)),.r (ftR 0 0)]):=hP
    generalize e.txt dgN=tx at *
    generalize (tokOf tx).1=M at *
    have w1:IntKind.i64.wrap ((M.length:Int)-1)=(n:Int):=(wrap64 (by omega) (by omega)).trans (by omega)
    have w2:(((n:Nat):Int)==(n:Int))=true:=by simp
    refine DPure.go Tryd.func3 rfl Tryd.ntmps3 rfl rfl rfl (fun C hro=>?_)
    have fx:=trivial
    replace fx:=And.intro g1 (And.intro g2 (And.intro pe (And.intro w1 (And.intro w2 (And.intro f1 (And.intro f2 trivial))))))
    repeat' (first|refine stp [0,1,2,4,5,6,7,8,9,10,11,12,13,14,15,23,32,71,74,90] ?_|(refine RS.sE ?_;refine rnx ?_)|(refine RS.pk ?_;refine rnx ?_)|(refine RS.gF ?_;refine rnx ?_)|(refine RS.lC ?_;refine rnx ?_)|(refine stc (r1:=by first|exact h1|exact hO|exact hP|exact hX|exact hR|exact hS|exact k4|exact h12|exact q3|exact hSz) (r2:=?_);refine rnx ?_)|(refine RS.q2 ?_;refine rnx ?_)|refine WP.cn (fun hc=>?_) (fun hc=>?_)|fail)
    rfl
   ·have hT:tokOf (e.txt dgN)=([],6,0):=by unfold tokOf;rw [if_pos (by omega)]
    have g3:decide (((bs (e.txt dgN)).size:Int)>16384)=true:=decide_eq_true (by rw [bs_size];omega)
    rw [hT] at hP
    replace hP:DPure Tryd.prog 6 [.a (.v (.string (bs (e.txt dgN))))] (.t [.a (.sl []),.r (ftR 6 0)]):=hP
    generalize e.txt dgN=tx at *
    refine DPure.go Tryd.func3 rfl Tryd.ntmps3 rfl rfl rfl (fun C hro=>?_)
    have fx:=trivial
    replace fx:=And.intro g1 (And.intro g2 (And.intro g3 (And.intro pe (And.intro f1 (And.intro f2 trivial)))))
    repeat' (first|refine stp [0,1,2,4,5,6,7,8,9,10,11,12,13,14,15,23,32,71,74,90] ?_|(refine RS.sE ?_;refine rnx ?_)|(refine RS.pk ?_;refine rnx ?_)|(refine RS.gF ?_;refine rnx ?_)|(refine RS.lC ?_;refine rnx ?_)|(refine stc (r1:=by first|exact h1|exact hO|exact hP|exact hX|exact hR|exact h12|exact q3|exact hSz) (r2:=?_);refine rnx ?_)|(refine RS.q2 ?_;refine rnx ?_)|refine WP.cn (fun hc=>?_) (fun hc=>?_)|fail)
    rfl
theorem pLawB (e:Ex) (s:List UInt8) (hz:e.sz≤1048576):DPure Tryd.prog 3 [.r (Ex.at e),.a (.v (.string (bs s)))] (.a (.v (.bool true))):=by
 by_cases hb:(bigE e:Int)>200∨(s.length:Int)>400
 ·exact pLawB0 e s hz hb
 ·have hs:s.length≤1048576:=by omega
  by_cases hA:(tokOf s).2.1=0
  ·exact pLawBB e s hz hs (fun h=>hb (.inl h)) (fun h=>hb (.inr h)) hA
  ·exact pLawBA e s hz hs (fun h=>hb (.inl h)) (fun h=>hb (.inr h)) hA
end Go.Proofs.YtbhmfkjbaklfeaaDoor
