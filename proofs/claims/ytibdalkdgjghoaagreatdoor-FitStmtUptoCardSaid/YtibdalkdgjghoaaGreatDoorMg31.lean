/- scope.This on plain data. Conditions: at most 2^20 parameters. -/
import Derived.Test.YtibdalkdgjghoaaGreatDoorMg22
import Derived.Test.YtibdalkdgjghoaaGreatDoorMg13
import Derived.Test.YtibdalkdgjghoaaGreatDoorMg23
import Derived.Test.YtibdalkdgjghoaaGreatDoorMg14
import Derived.Test.YtibdalkdgjghoaaGreatDoorMg28
import Derived.Test.YtibdalkdgjghoaaGreatDoorMg30
set_option linter.unusedVariables false
set_option maxRecDepth 100000
set_option maxHeartbeats 8000000
set_option linter.unusedSimpArgs false
namespace Go.Proofs.YtibdalkdgjghoaaGreatDoor
open Go.RowKit
def ownAt (c:Cs) (k:Nat):Int×Int:=(thisL c).getD k (0,0)
def thisT (c:Cs):Ty:=⟨2,c.name,((min (c.params.length+1) 4:Nat):Int)-1,ownAt c 0,ownAt c 1,ownAt c 2,ownAt c 3⟩
theorem pThis (c:Cs) (hc:c.params.length≤1048576):DPure Tryz.prog 110 [.r (Cs.at c)] (.r (Ty.at (thisT c))):=by
 have htz:Ty.at Ty.zero=[.v (.int .i64 0),.v (.string (bs [])),.v (.int .i64 0),.v (.int .i64 0),.v (.int .i64 0),.v (.int .i64 0),.v (.int .i64 0),.v (.int .i64 0),.v (.int .i64 0),.v (.int .i64 0),.v (.int .i64 0)]:=rfl
 have hal:allLen 2 ((thisL c).map owAt)=true:=allLen_ow
 have hln:(thisL c).length=c.params.length+1:=by simp [thisL]
 have hwr:IntKind.i64.wrap (((min (thisL c).length 4:Nat):Int)-1)=((min (c.params.length+1) 4:Nat):Int)-1:=by rw [hln];exact wrap64 (by omega) (by omega)
 have hpr:putRow [A.v (.int .i64 0),.v (.int .i64 0),.v (.int .i64 0),.v (.int .i64 0),.v (.int .i64 0),.v (.int .i64 0),.v (.int .i64 0),.v (.int .i64 0)] 0 (List.take (min (thisL c).length 4) ((thisL c).map owAt)).flatten=[.v (.int .i64 (ownAt c 0).1),.v (.int .i64 (ownAt c 0).2),.v (.int .i64 (ownAt c 1).1),.v (.int .i64 (ownAt c 1).2),.v (.int .i64 (ownAt c 2).1),.v (.int .i64 (ownAt c 2).2),.v (.int .i64 (ownAt c 3).1),.v (.int .i64 (ownAt c 3).2)]:=by
  rw [hln]
  unfold ownAt thisL
  generalize c.params.length=n
  match n with
  | 0=>rfl
  | 1=>rfl
  | 2=>rfl
  | k+3 =>
   rw [show min (k+3+1) 4=4 by omega,show k+3=(((k+1)+1)+1) from rfl]
   simp [List.range_succ_eq_map,owAt,putRow]
 refine DPure.go Tryz.func110 rfl Tryz.ntmps110 rfl rfl rfl (fun C hro=>?_)
 have fx:=trivial
 replace fx:=And.intro htz (And.intro hal (And.intro hwr (And.intro hpr trivial)))
 repeat' (first|refine stp [0,1,2,3] ?_|(refine RS.sE ?_;refine rnx ?_)|(refine RS.sN ?_;refine rnx ?_)|(refine RS.sC ?_;refine rnx ?_)|(refine RS.cC ?_;refine rnx ?_)|(refine stc (r1:=by exact pThisL c hc) (r2:=?_);refine rnx ?_)|(refine RQ.sC ?_;refine rnx ?_)|((first|refine WP.dw (id:=2) 4 [0,1,2,3] ?_);simp only [RQr_mk,List.drop_succ_cons,List.drop_zero,List.drop_nil])|fail)
 rfl
theorem placeI_get (m:Me) (s:List UInt8):placeI m s = -1∨∃(j:Nat) (z:Vr),(m.params++m.locals)[j]? = some z∧z.name=s∧placeI m s=(j:Int):=by
 rcases varI_get m.params s with h|⟨j,z,h1,h2,h3⟩
 ·rcases varI_get m.locals s with g|⟨k,y,g1,g2,g3⟩
  ·exact .inl (by unfold placeI;rw [if_neg (by omega),if_pos (by omega)])
  ·refine .inr ⟨m.params.length+k,y,?_,g2,?_⟩
   ·rw [List.getElem?_append_right (by omega),Nat.add_sub_cancel_left];exact g1
   ·unfold placeI;rw [if_neg (by omega),if_neg (by omega),g3];omega
 ·refine .inr ⟨j,z,?_,h2,?_⟩
  ·rw [List.getElem?_append_left (List.getElem?_eq_some_iff.1 h1).1];exact h1
  ·unfold placeI;rw [if_pos (by omega),h3]
def thisS:List UInt8:=[116,104,105,115]
def typeT (c:Cs) (m:Me) (s:List UInt8):Ty×Bool :=
 if (s==thisS)=true then (thisT c,true) else if placeI m s<0 then (Ty.zero,false) else ((((m.params++m.locals)[(placeI m s).toNat]?).map Vr.ty).getD Ty.zero,true)
theorem pType (c:Cs) (m:Me) (s:List UInt8) (hc:c.params.length≤1048576) (ha:m.params.length≤1048576) (hb:m.locals.length≤1048576):DPure Tryz.prog 103 [.r (Cs.at c),.r (Me.at m),.a (.v (.string (bs s)))] (.t [.r (Ty.at (typeT c m s).1),.a (.v (.bool (typeT c m s).2))]):=by
 have htb:(thisS==thisS)=true:=rfl
 cases hT:(s==thisS) with
 | true =>
  have hts:(s==[116,104,105,115])=true:=hT
  rw [show typeT c m s=(thisT c,true) by unfold typeT;rw [if_pos hT]]
  have hq:=pThis c hc
  generalize thisT c=T at hq ⊢
  dsimp only
  refine DPure.go Tryz.func103 rfl Tryz.ntmps103 rfl rfl rfl (fun C hro=>?_)
  have fx:=trivial
  replace fx:=And.intro hts trivial
  repeat' (first|refine stp [0,1,2,3,4,6,7,8,10,17] ?_|(refine RS.sE ?_;refine rnx ?_)|(refine RS.xC ?_;refine rnx ?_)|(refine stc (r1:=by exact hq) (r2:=?_);refine rnx ?_)|refine WP.cn (fun hc=>?_) (fun hc=>?_)|fail)
  all_goals rfl
 | false =>
  have hts:(s==[116,104,105,115])=false:=hT
  rcases placeI_get m s with hp|⟨j,z,hz,_,hp⟩
  ·have hd:decide (placeI m s<0)=true:=decide_eq_true (by omega)
   rw [show typeT c m s=(Ty.zero,false) by unfold typeT;rw [if_neg (by rw [hT];exact Bool.false_ne_true),if_pos (by omega)]]
   refine DPure.go Tryz.func103 rfl Tryz.ntmps103 rfl rfl rfl (fun C hro=>?_)
   have fx:=trivial
   replace fx:=And.intro hts (And.intro hd trivial)
   repeat' (first|refine stp [0,1,2,3,4,6,7,8,10,17] ?_|(refine RS.sE ?_;refine rnx ?_)|(refine RS.xC ?_;refine rnx ?_)|(refine stc (r1:=by exact pPlace m s ha hb) (r2:=?_);refine rnx ?_)|refine WP.cn (fun hc=>?_) (fun hc=>?_)|fail)
   all_goals rfl
  ·have hd:decide ((j:Int)<0)=false:=decide_eq_false (by omega)
   have hjx:∀q2,ixD (some 13) q2 (.a (.sl ((m.params++m.locals).map Vr.at))) (.a (.v (.int .i64 (j:Int))))=some (.a (.ref (Vr.at z) 0)):=fun q2=>ixD_at rfl (by rw [List.getElem?_map,hz];rfl) (by simp only [go_sem])
   have hma:List.map Vr.at m.params++List.map Vr.at m.locals=(m.params++m.locals).map Vr.at:=List.map_append.symm
   rw [show typeT c m s=(z.ty,true) by unfold typeT;rw [if_neg (by rw [hT];exact Bool.false_ne_true),if_neg (by omega),hp,Int.toNat_natCast,hz];rfl]
   refine DPure.go Tryz.func103 rfl Tryz.ntmps103 rfl rfl rfl (fun C hro=>?_)
   have fx:=trivial
   replace fx:=And.intro hts (And.intro hp (And.intro hd (And.intro hjx trivial)))
   repeat' (first|refine stp [0,1,2,3,4,6,7,8,10,17] ?_|(refine RS.sE ?_;refine rnx ?_)|(refine RS.xC ?_;refine rnx ?_)|(refine stc (r1:=by first|exact pPlace m s ha hb|exact pVarsA m ha hb) (r2:=?_);refine rnx ?_)|refine WP.cn (fun hc=>?_) (fun hc=>?_)|fail)
   all_goals rfl
theorem pMust (b:Bool) (z:Int):DPure Tryz.prog 104 [.a (.v (.bool b)),.a (.v (.int .i64 z))] (.a (.v (.int .i64 (bif b then 0 else z)))):=by
 cases b
 all_goals refine DPure.go Tryz.func104 rfl Tryz.ntmps104 rfl rfl rfl (fun C hro=>?_)
 all_goals have fx:=trivial
 all_goals (repeat' (first|refine stp [0,1,4,5] ?_|refine WP.cn (fun hc=>?_) (fun hc=>?_)|fail))
 all_goals rfl
theorem retMCT {P:Program} {n:Nat} {e:Nat→D} {st:List Bx} {O:D→List Bx→D→Prop} {d1 d2:D} {t u i off:Nat} {T:TypeId} {row:List A} {k:Option Nat} (h:O (.t [d1,d2]) st (e 1000000)) (he:e t=.a (.ptr i off):=by (simp only [go_sem,simprocAttr,fx])<;>rfl) (hs:st[i]? = some (.cell row):=by (simp only [go_sem,simprocAttr,fx])<;>rfl) (hk:ldk P T=some k:=by (simp only [go_sem])<;>rfl) (hd:ldRow k row off=some d1:=by (simp only [go_sem,simprocAttr,fx])<;>rfl) (ht:decide (t<n)=true:=by rfl) (he2:e u=d2:=by (simp only [go_sem,simprocAttr,fx])<;>rfl) (hu:decide (u<n)=true:=by rfl):retM P n [.cell t T,.tmp u] O .ret e st:=by
 refine⟨.t [d1,d2],⟨[d1,d2],rfl,?_⟩,h⟩
 simp only [List.map_cons,List.map_nil,resM1]
 rw [if_pos (of_decide_eq_true ht),if_pos (of_decide_eq_true hu),he,he2]
 simp only [hs,hk,hd]
def tyK (k:Int):Ty:=⟨k,[],0,(0,0),(0,0),(0,0),(0,0)⟩
mutual
def shT (c:Cs) (m:Me):Ex→Ty×Int
 | ⟨k,_,s,l⟩=>if (k==2)=true then (if (typeT c m s).2=true then ((typeT c m s).1,0) else (Ty.zero,13)) else if (k==3)=true then (thisT c,0) else if (k==4)=true then (tyK 3,0) else shsT c m k false l
def shsT (c:Cs) (m:Me) (k:Int) (u:Bool):List Ex→Ty×Int
 | []=>if (u&&k==14)=true then (Ty.zero,22) else (tyK 1,0)
 | e::r=>if ((shT c m e).2==0&&!wantB k (shT c m e).1)=true then (Ty.zero,14) else if ((shT c m e).2 != 0)=true then (Ty.zero,(shT c m e).2) else shsT c m k (u||uniqB (shT c m e).1) r
end
theorem shT_eq (c:Cs) (m:Me) (e:Ex):shT c m e=if (e.kind==2)=true then (if (typeT c m e.name).2=true then ((typeT c m e.name).1,0) else (Ty.zero,13)) else if (e.kind==3)=true then (thisT c,0) else if (e.kind==4)=true then (tyK 3,0) else shsT c m e.kind false e.kids:=by
 obtain⟨k,n,s,l⟩:=e;rw [shT]
theorem tyZ:[A.v (.int .i64 0),.v (.string (bs [])),.v (.int .i64 0),.v (.int .i64 0),.v (.int .i64 0),.v (.int .i64 0),.v (.int .i64 0),.v (.int .i64 0),.v (.int .i64 0),.v (.int .i64 0),.v (.int .i64 0)]=Ty.at Ty.zero:=rfl
theorem pShOf1 (c:Cs) (m:Me) (hcp:c.params.length≤1048576) (ha:m.params.length≤1048576) (hb:m.locals.length≤1048576):∀(n:Nat) (e:Ex),e.sz≤n→e.sz≤1048576→DM Tryz.prog 109 [.r (Ex.at e),.a (.ptr 0 0),.a (.ptr 1 0),.a (.ptr 2 0)] [.cell (Cs.at c),.cell (Me.at m),.cell [.fn 109 [.ptr 0 0,.ptr 1 0,.ptr 2 0]]] (.t [.r (Ty.at (shT c m e).1),.a (.v (.int .i64 (shT c m e).2))]) [.cell (Cs.at c),.cell (Me.at m),.cell [.fn 109 [.ptr 0 0,.ptr 1 0,.ptr 2 0]]]
 | 0,e,h,_=>by have:=e.sz_pos;omega
 | n+1,e,h,hz=>by
  have IH:∀k∈e.kids,_:=fun k hk=>pShOf1 c m hcp ha hb n k (by have:=Ex.kid_lt hk;omega) (by have:=Ex.kid_lt hk;omega)
  have hlen:e.kids.length≤1048576:=by have:=Ex.szs_len e.kids;have:=e.sz_eq;omega
  rw [shT_eq]
  refine DM.intro Tryz.func109 rfl Tryz.ntmps109 rfl rfl rfl (by simp only [go_sem,simprocAttr]) (fun V0 Kb Nx=>?_)
  have fx:=trivial
  replace fx:=And.intro tyZ trivial
  repeat' (first|refine stp [0,1,2,3,4,5,6,7,8,9,11,12,13,15,16,27,30,34,38,39,40,41,58,60,64,74] ?_|(refine RS.sE ?_;refine rnx ?_)|(refine RS.pk ?_;refine rnx ?_)|(refine RS.gF ?_;refine rnx ?_)|(refine RS.lC ?_;refine rnx ?_)|(refine RS.xC ?_;refine rnx ?_)|(refine stc (r1:=by first|exact pType c m e.name hcp ha hb|exact pThis c hcp) (r2:=?_);refine rnx ?_)|refine WP.cn (fun hc=>?_) (fun hc=>?_)|fail)
  ·refine retMCT ?_
   exact⟨by rw [if_pos (by assumption),if_neg (by simpa using hc)],_,rfl⟩
  ·refine retMCT ?_
   exact⟨by rw [if_pos (by assumption),if_pos (by simpa using hc)],_,rfl⟩
  ·rename_i h2
   refine retMCT ?_
   exact⟨by rw [if_neg (by rw [h2];exact Bool.false_ne_true),if_pos hc],_,rfl⟩
  ·rename_i h2 h3
   refine retMCT ?_
   exact⟨by rw [if_neg (by rw [h2];exact Bool.false_ne_true),if_neg (by rw [h3];exact Bool.false_ne_true),if_pos hc];rfl,_,rfl⟩
  rename_i h2 h3
  rw [if_neg (by rw [h2];exact Bool.false_ne_true),if_neg (by rw [h3];exact Bool.false_ne_true),if_neg (by rw [hc];exact Bool.false_ne_true)]
  clear h2 h3 hc
  refine WP.loopX (α:={ y:Nat×Nat // y.1≤e.kids.length∧y.2≤y.1∧shsT c m e.kind false e.kids=shsT c m e.kind (decide (0<y.2)) (e.kids.drop y.1) }) (fun y=>[(1,.a (.ptr 0 0)),(2,.a (.ptr 1 0)),(3,.a (.ptr 2 0)),(4,.a (.ptr 3 0)),(5,.a (.ptr 4 0)),(9,.a (.v (.int .i64 (y.1.2:Nat)))),(38,.a (.sl (e.kids.map Ex.at))),(39,.a (.v (.int .i64 (e.kids.length:Nat)))),(40,.a (.v (.int .i64 (y.1.1:Nat))))]) (fun y=>[.cell (Cs.at c),.cell (Me.at m),.cell [.fn 109 [.ptr 0 0,.ptr 1 0,.ptr 2 0]],.cell (Ex.at e),.cell (Ty.at Ty.zero)]) (fun y=>e.kids.length-y.1.1) ⟨(0,0),by omega,by omega,rfl⟩ (by simp only [Agree,go_sem,simprocAttr];first|done|rfl) rfl ?_
  rintro⟨⟨k,u⟩,hk,hu,hinv⟩
  dsimp only at hk hu hinv ⊢
  by_cases hlt:k<e.kids.length
  ·have hlt2:decide ((k:Int)<((e.kids.length:Nat):Int))=true:=decide_eq_true (by omega)
   obtain⟨z,hz⟩:∃z,e.kids[k]? = some z:=⟨_,List.getElem?_eq_getElem hlt⟩
   have hzm:z∈e.kids:=List.mem_of_getElem? hz
   have hzt:=take_snocA hz
   have hix:∀q2,ixD (some 4) q2 (.a (.sl (e.kids.map Ex.at))) (.a (.v (.int .i64 (k:Int))))=some (.a (.ref (Ex.at z) 0)):=fun q2=>ixD_at rfl (by rw [List.getElem?_map,hz];rfl) (by simp only [go_sem])
   have hwu:=wrap64n (k:=k) (by omega)
   have hwv:=wrap64n (k:=u) (by omega)
   have hdr:e.kids.drop k=z::e.kids.drop (k+1):=by rw [List.drop_eq_getElem_cons hlt];congr 1;exact (List.getElem?_eq_some_iff.1 hz).2
   rw [hdr,shsT] at hinv
   have hIz:=IH z hzm
   generalize shT c m z=R at hIz hinv
   clear IH
   replace fx:=And.intro hlt2 (And.intro hix (And.intro hwu (And.intro hwv (And.intro tyZ trivial))))
   repeat' (first|refine stp [0,1,2,3,4,5,6,7,8,9,11,12,13,15,16,27,30,34,38,39,40,41,58,60,64,74] ?_|(refine RS.sE ?_;refine rnx ?_)|(refine RS.pk ?_;refine rnx ?_)|(refine RS.gF ?_;refine rnx ?_)|(refine RS.lC ?_;refine rnx ?_)|(refine RS.xC ?_;refine rnx ?_)|(refine stc (r1:=by first|exact pWant e.kind R.1|exact pUnique R.1) (r2:=?_);refine rnx ?_)|(refine RS.cM [0,1,2] (hp:=by exact hIz) (h:=?_);refine rnx ?_)|(refine RS.cvM [0,1,2] (hp:=by exact hIz) (h:=?_);refine rnx ?_)|refine WP.cn (fun hc=>?_) (fun hc=>?_)|fail)
   ·refine retMCT ?_
    exact⟨by rw [hinv,if_pos (by assumption)],_,rfl⟩
   ·rename_i h4
    refine retMCT ?_
    exact⟨by rw [hinv,if_neg (by rw [h4];exact Bool.false_ne_true),if_pos hc],_,rfl⟩
   ·rename_i h5 h4
    rw [if_neg (by rw [h5];exact Bool.false_ne_true),if_neg (by rw [h4];exact Bool.false_ne_true),hc,Bool.or_true] at hinv
    refine⟨⟨(k+1,u+1),by dsimp only;omega,by dsimp only;omega,by rw [hinv,decide_eq_true (by dsimp only;omega)]⟩,_,by dsimp only;omega,by simp only [Agree,go_sem,simprocAttr],rfl,by simp only [nrE,nrD,List.all_cons,List.all_nil,go_sem,simprocAttr],by simp only [go_sem,simprocAttr]⟩
   ·rename_i h5 h4
    rw [if_neg (by rw [h5];exact Bool.false_ne_true),if_neg (by rw [h4];exact Bool.false_ne_true),hc,Bool.or_false] at hinv
    refine⟨⟨(k+1,u),by dsimp only;omega,by dsimp only;omega,hinv⟩,_,by dsimp only;omega,by simp only [Agree,go_sem,simprocAttr],rfl,by simp only [nrE,nrD,List.all_cons,List.all_nil,go_sem,simprocAttr],by simp only [go_sem,simprocAttr]⟩
  ·obtain rfl:k=e.kids.length:=by omega
   have hlt2:decide ((e.kids.length:Int)<(e.kids.length:Int))=false:=decide_eq_false (by omega)
   have hub:decide ((u:Int)>0)=decide (0<u):=by
    by_cases h:0<u
    ·rw [decide_eq_true h];exact decide_eq_true (by omega)
    ·rw [decide_eq_false h];exact decide_eq_false (by omega)
   rw [List.drop_length,shsT] at hinv
   clear IH
   replace fx:=And.intro hlt2 (And.intro tyZ (And.intro hub trivial))
   repeat' (first|refine stp [0,1,2,3,4,5,6,7,8,9,11,12,13,15,16,27,30,34,38,39,40,41,58,60,64,74] ?_|(refine RS.sE ?_;refine rnx ?_)|(refine RS.pk ?_;refine rnx ?_)|(refine RS.gF ?_;refine rnx ?_)|(refine RS.lC ?_;refine rnx ?_)|(refine RS.xC ?_;refine rnx ?_)|refine WP.cn (fun hc=>?_) (fun hc=>?_)|fail)
   ·refine retMCT ?_
    exact⟨by rw [hinv,if_pos hc],_,rfl⟩
   ·refine retMCT ?_
    exact⟨by rw [hinv,if_neg (by rw [hc];exact Bool.false_ne_true)];rfl,_,rfl⟩
def oneT (c:Cs) (m:Me) (e:Ex):Ty×Int:=if e.rightB=true then shT c m e else (Ty.zero,28)
theorem pShOf (c:Cs) (m:Me) (e:Ex) (hcp:c.params.length≤1048576) (ha:m.params.length≤1048576) (hb:m.locals.length≤1048576) (hz:e.sz≤1048576):DPure Tryz.prog 51 [.r (Cs.at c),.r (Me.at m),.r (Ex.at e)] (.t [.r (Ty.at (oneT c m e).1),.a (.v (.int .i64 (oneT c m e).2))]):=by
 have hq:=pShOf1 c m hcp ha hb _ e (Nat.le_refl _) hz
 unfold oneT
 generalize shT c m e=R at hq
 refine DPure.go Tryz.func51 rfl Tryz.ntmps51 rfl rfl rfl (fun C hro=>?_)
 have fx:=trivial
 replace fx:=And.intro tyZ trivial
 repeat' (first|refine stp [0,1,2,3,4,5,6,7,8,11] ?_|(refine RS.sE ?_;refine rnx ?_)|(refine stc (r1:=by exact peRight e hz) (r2:=?_);refine rnx ?_)|(refine RS.cM [0,1,4] (hp:=by exact hq) (h:=?_);refine rnx ?_)|(refine RS.cvM [0,1,4] (hp:=by exact hq) (h:=?_);refine rnx ?_)|refine WP.cn (fun hc=>?_) (fun hc=>?_)|fail)
 ·rw [if_neg (by simpa using hc)]
 ·rw [if_pos (by simpa using hc)]
end Go.Proofs.YtibdalkdgjghoaaGreatDoor
