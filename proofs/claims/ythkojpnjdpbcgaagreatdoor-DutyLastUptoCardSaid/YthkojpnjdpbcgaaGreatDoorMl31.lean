/- scope.This on plain data. Conditions: at most 2^20 parameters. -/
import Derived.Test.YthkojpnjdpbcgaaGreatDoorMl17
import Derived.Test.YthkojpnjdpbcgaaGreatDoorMl18
import Derived.Test.YthkojpnjdpbcgaaGreatDoorMl20
import Derived.Test.YthkojpnjdpbcgaaGreatDoorMl22
import Derived.Test.YthkojpnjdpbcgaaGreatDoorMl28
import Derived.Test.YthkojpnjdpbcgaaGreatDoorMl29
import Derived.Test.YthkojpnjdpbcgaaGreatDoorMl30
import Derived.Test.YthkojpnjdpbcgaaGreatDoorMl5
set_option linter.unusedVariables false
set_option maxRecDepth 100000
set_option maxHeartbeats 8000000
set_option linter.unusedSimpArgs false
namespace Go.Proofs.YthkojpnjdpbcgaaGreatDoor
open Go.RowKit
def qfa (c:Cs) (k:Nat):Int×Int:=(qbl c).getD k (0,0)
def qe4 (c:Cs):Ty:=⟨2,c.name,((min (c.params.length+1) 4:Nat):Int)-1,qfa c 0,qfa c 1,qfa c 2,qfa c 3⟩
theorem pThis (c:Cs) (hc:c.params.length≤1048576):qaa Tryz.prog 114 [.r (Cs.at c)] (.r (Ty.at (qe4 c))):=by
 have htz:Ty.at Ty.zero=[.v (.int .i64 0),.v (.string (bs [])),.v (.int .i64 0),.v (.int .i64 0),.v (.int .i64 0),.v (.int .i64 0),.v (.int .i64 0),.v (.int .i64 0),.v (.int .i64 0),.v (.int .i64 0),.v (.int .i64 0)]:=rfl
 have hal:qay 2 ((qbl c).map owAt)=true:=allLen_ow
 have hln:(qbl c).length=c.params.length+1:=by simp [qbl]
 have hwr:IntKind.i64.wrap (((min (qbl c).length 4:Nat):Int)-1)=((min (c.params.length+1) 4:Nat):Int)-1:=by rw [hln];exact qbk (by omega) (by omega)
 have hpr:qah [A.v (.int .i64 0),.v (.int .i64 0),.v (.int .i64 0),.v (.int .i64 0),.v (.int .i64 0),.v (.int .i64 0),.v (.int .i64 0),.v (.int .i64 0)] 0 (List.take (min (qbl c).length 4) ((qbl c).map owAt)).flatten=[.v (.int .i64 (qfa c 0).1),.v (.int .i64 (qfa c 0).2),.v (.int .i64 (qfa c 1).1),.v (.int .i64 (qfa c 1).2),.v (.int .i64 (qfa c 2).1),.v (.int .i64 (qfa c 2).2),.v (.int .i64 (qfa c 3).1),.v (.int .i64 (qfa c 3).2)]:=by
  rw [hln]
  unfold qfa qbl
  generalize c.params.length=n
  match n with
  | 0=>rfl
  | 1=>rfl
  | 2=>rfl
  | k+3 =>
   rw [show min (k+3+1) 4=4 by omega,show k+3=(((k+1)+1)+1) from rfl]
   simp [List.range_succ_eq_map,owAt,qah]
 refine qaa.go Tryz.func114 rfl Tryz.ntmps114 rfl rfl rfl (fun C hro=>?_)
 have fx:=trivial
 replace fx:=ai15 htz (ai15 hal (ai15 hwr (ai15 hpr trivial)))
 repeat' (first|refine stp [0,1,2,3] ?_|(refine RS.cC ?_;refine rnx ?_)|(refine stc (r1:=by exact pThisL c hc) (r2:=?_);refine rnx ?_)|(refine RQ.sC ?_;refine rnx ?_)|((refine WP.dw (id:=2) 4 [0,1,2,3] ?_);simp only [qbh,List.drop_succ_cons,List.drop_zero,List.drop_nil])|fail)
 rfl
theorem qij (m:Me) (s:List UInt8):qaz m s = -1∨∃(j:Nat) (z:Vr),(m.params++m.locals)[j]? = some z∧z.name=s∧qaz m s=(j:Int):=by
 rcases qi0 m.params s with h|⟨j,z,h1,h2,h3⟩
 ·rcases qi0 m.locals s with g|⟨k,y,g1,g2,g3⟩
  ·exact .inl (by unfold qaz;rw [if_neg (by omega),if_pos (by omega)])
  ·refine .inr ⟨m.params.length+k,y,?_,g2,?_⟩
   ·rw [List.getElem?_append_right (by omega),Nat.add_sub_cancel_left];exact g1
   ·unfold qaz;rw [if_neg (by omega),if_neg (by omega),g3];omega
 ·refine .inr ⟨j,z,?_,h2,?_⟩
  ·rw [List.getElem?_append_left (List.getElem?_eq_some_iff.1 h1).1];exact h1
  ·unfold qaz;rw [if_pos (by omega),h3]
def qc6:List UInt8:=[116,104,105,115]
def qak (c:Cs) (m:Me) (s:List UInt8):Ty×Bool :=
 if (s==qc6)=true then (qe4 c,true) else if qaz m s<0 then (Ty.zero,false) else ((((m.params++m.locals)[(qaz m s).toNat]?).map Vr.ty).getD Ty.zero,true)
theorem pType (c:Cs) (m:Me) (s:List UInt8) (hc:c.params.length≤1048576) (ha:m.params.length≤1048576) (hb:m.locals.length≤1048576):qaa Tryz.prog 53 [.r (Cs.at c),.r (Me.at m),.a (.v (.string (bs s)))] (.t [.r (Ty.at (qak c m s).1),.a (.v (.bool (qak c m s).2))]):=by
 have htb:(qc6==qc6)=true:=rfl
 cases hT:(s==qc6) with
 | true =>
  have hts:(s==[116,104,105,115])=true:=hT
  rw [show qak c m s=(qe4 c,true) by unfold qak;rw [if_pos hT]]
  have hq:=pThis c hc
  generalize qe4 c=T at hq ⊢
  dsimp only
  refine qaa.go Tryz.func53 rfl Tryz.ntmps53 rfl rfl rfl (fun C hro=>?_)
  have fx:=trivial
  replace fx:=ai15 hts trivial
  repeat' (first|refine stp [0,1,2,3,4,6,7,8,10,17] ?_|(refine stc (r1:=by exact hq) (r2:=?_);refine rnx ?_)|fail)
  all_goals rfl
 | false =>
  have hts:(s==[116,104,105,115])=false:=hT
  rcases qij m s with hp|⟨j,z,hz,_,hp⟩
  ·have hd:decide (qaz m s<0)=true:=decide_eq_true (by omega)
   rw [show qak c m s=(Ty.zero,false) by unfold qak;rw [if_neg (by rw [hT];exact Bool.false_ne_true),if_pos (by omega)]]
   refine qaa.go Tryz.func53 rfl Tryz.ntmps53 rfl rfl rfl (fun C hro=>?_)
   have fx:=trivial
   replace fx:=ai15 hts (ai15 hd trivial)
   repeat' (first|refine stp [0,1,2,3,4,6,7,8,10,17] ?_|(refine stc (r1:=by exact qil m s ha hb) (r2:=?_);refine rnx ?_)|fail)
   all_goals rfl
  ·have hd:decide ((j:Int)<0)=false:=decide_eq_false (by omega)
   have hjx:∀q2,ixD (some 13) q2 (.a (.sl ((m.params++m.locals).map Vr.at))) (.a (.v (.int .i64 (j:Int))))=some (.a (.ref (Vr.at z) 0)):=fun q2=>qaq rfl (by rw [List.getElem?_map,hz];rfl) (by simp only [go_sem])
   have hma:List.map Vr.at m.params++List.map Vr.at m.locals=(m.params++m.locals).map Vr.at:=List.map_append.symm
   rw [show qak c m s=(z.ty,true) by unfold qak;rw [if_neg (by rw [hT];exact Bool.false_ne_true),if_neg (by omega),hp,Int.toNat_natCast,hz];rfl]
   refine qaa.go Tryz.func53 rfl Tryz.ntmps53 rfl rfl rfl (fun C hro=>?_)
   have fx:=trivial
   replace fx:=ai15 hts (ai15 hp (ai15 hd (ai15 hjx trivial)))
   repeat' (first|refine stp [0,1,2,3,4,6,7,8,10,17] ?_|(refine stc (r1:=by first|exact qil m s ha hb|exact pVarsA m ha hb) (r2:=?_);refine rnx ?_)|fail)
   all_goals rfl
theorem qf6 (b:Bool) (z:Int):qaa Tryz.prog 110 [.a (.v (.bool b)),.a (.v (.int .i64 z))] (.a (.v (.int .i64 (bif b then 0 else z)))):=by
 cases b
 all_goals refine qaa.go Tryz.func110 rfl Tryz.ntmps110 rfl rfl rfl (fun C hro=>?_)
 all_goals have fx:=trivial
 all_goals (repeat' (first|refine stp [0,1,4,5] ?_|fail))
 all_goals rfl
theorem qf2 {P:Program} {n:Nat} {e:Nat→D} {st:List Bx} {O:D→List Bx→D→Prop} {d1 d2:D} {t u i off:Nat} {T:TypeId} {row:List A} {k:Option Nat} (h:O (.t [d1,d2]) st (e 1000000)) (he:e t=.a (.ptr i off):=by (simp only [go_sem,simprocAttr,fx])<;>rfl) (hs:st[i]? = some (.cell row):=by (simp only [go_sem,simprocAttr,fx])<;>rfl) (hk:ldk P T=some k:=by (simp only [go_sem])<;>rfl) (hd:qae k row off=some d1:=by (simp only [go_sem,simprocAttr,fx])<;>rfl) (ht:decide (t<n)=true:=by rfl) (he2:e u=d2:=by (simp only [go_sem,simprocAttr,fx])<;>rfl) (hu:decide (u<n)=true:=by rfl):retM P n [.cell t T,.tmp u] O .ret e st:=by
 refine⟨.t [d1,d2],⟨[d1,d2],rfl,?_⟩,h⟩
 simp only [List.map_cons,List.map_nil,qhx]
 rw [if_pos (of_decide_eq_true ht),if_pos (of_decide_eq_true hu),he,he2]
 simp only [hs,hk,hd]
def tyK (k:Int):Ty:=⟨k,[],0,(0,0),(0,0),(0,0),(0,0)⟩
mutual
def shT (c:Cs) (m:Me):Ex→Ty×Int
 | ⟨k,_,s,l⟩=>if (k==2)=true then (if (qak c m s).2=true then ((qak c m s).1,0) else (Ty.zero,13)) else if (k==3)=true then (qe4 c,0) else if (k==4)=true then (tyK 3,0) else shsT c m k false l
def shsT (c:Cs) (m:Me) (k:Int) (u:Bool):List Ex→Ty×Int
 | []=>if (u&&k==14)=true then (Ty.zero,22) else (tyK 1,0)
 | e::r=>if ((shT c m e).2==0&&!wantB k (shT c m e).1)=true then (Ty.zero,14) else if ((shT c m e).2 != 0)=true then (Ty.zero,(shT c m e).2) else shsT c m k (u||qan (shT c m e).1) r
end
theorem shT_eq (c:Cs) (m:Me) (e:Ex):shT c m e=if (e.kind==2)=true then (if (qak c m e.name).2=true then ((qak c m e.name).1,0) else (Ty.zero,13)) else if (e.kind==3)=true then (qe4 c,0) else if (e.kind==4)=true then (tyK 3,0) else shsT c m e.kind false e.kids:=by
 obtain⟨k,n,s,l⟩:=e;rw [shT]
theorem tyZ:[A.v (.int .i64 0),.v (.string (bs [])),.v (.int .i64 0),.v (.int .i64 0),.v (.int .i64 0),.v (.int .i64 0),.v (.int .i64 0),.v (.int .i64 0),.v (.int .i64 0),.v (.int .i64 0),.v (.int .i64 0)]=Ty.at Ty.zero:=rfl
theorem pShOf1 (c:Cs) (m:Me) (hcp:c.params.length≤1048576) (ha:m.params.length≤1048576) (hb:m.locals.length≤1048576):∀(n:Nat) (e:Ex),e.sz≤n→e.sz≤1048576→DM Tryz.prog 171 [.r (Ex.at e),.a (.ptr 0 0),.a (.ptr 1 0),.a (.ptr 2 0)] [.cell (Cs.at c),.cell (Me.at m),.cell [.fn 171 [.ptr 0 0,.ptr 1 0,.ptr 2 0]]] (.t [.r (Ty.at (shT c m e).1),.a (.v (.int .i64 (shT c m e).2))]) [.cell (Cs.at c),.cell (Me.at m),.cell [.fn 171 [.ptr 0 0,.ptr 1 0,.ptr 2 0]]]
 | 0,e,h,_=>by have:=e.sz_pos;omega
 | n+1,e,h,hz=>by
  have IH:∀k∈e.kids,_:=fun k hk=>pShOf1 c m hcp ha hb n k (by have:=Ex.kid_lt hk;omega) (by have:=Ex.kid_lt hk;omega)
  have hlen:e.kids.length≤1048576:=by have:=Ex.szs_len e.kids;have:=e.sz_eq;omega
  rw [shT_eq]
  refine DM.intro Tryz.func171 rfl Tryz.ntmps171 rfl rfl rfl (by simp only [go_sem,simprocAttr]) (fun V0 Kb Nx=>?_)
  have fx:=trivial
  replace fx:=ai15 tyZ trivial
  repeat' (first|refine stp [0,1,2,3,4,5,6,7,8,9,11,12,13,15,16,27,30,34,38,39,40,41,58,60,64,74] ?_|(refine stc (r1:=by first|exact pType c m e.name hcp ha hb|exact pThis c hcp) (r2:=?_);refine rnx ?_)|refine WP.cn (fun hc=>?_) (fun hc=>?_)|fail)
  ·refine qf2 ?_
   exact⟨by rw [if_pos (by assumption),if_neg (by simpa using hc)],_,rfl⟩
  ·refine qf2 ?_
   exact⟨by rw [if_pos (by assumption),if_pos (by simpa using hc)],_,rfl⟩
  ·rename_i h2
   refine qf2 ?_
   exact⟨by rw [if_neg (by rw [h2];exact Bool.false_ne_true),if_pos hc],_,rfl⟩
  ·rename_i h2 h3
   refine qf2 ?_
   exact⟨by rw [if_neg (by rw [h2];exact Bool.false_ne_true),if_neg (by rw [h3];exact Bool.false_ne_true),if_pos hc];rfl,_,rfl⟩
  rename_i h2 h3
  rw [if_neg (by rw [h2];exact Bool.false_ne_true),if_neg (by rw [h3];exact Bool.false_ne_true),if_neg (by rw [hc];exact Bool.false_ne_true)]
  clear h2 h3 hc
  refine WP.loopX (α:={ y:Nat×Nat // y.1≤e.kids.length∧y.2≤y.1∧shsT c m e.kind false e.kids=shsT c m e.kind (decide (0<y.2)) (e.kids.drop y.1) }) (fun y=>[(1,.a (.ptr 0 0)),(2,.a (.ptr 1 0)),(3,.a (.ptr 2 0)),(4,.a (.ptr 3 0)),(5,.a (.ptr 4 0)),(9,.a (.v (.int .i64 (y.1.2:Nat)))),(38,.a (.sl (e.kids.map Ex.at))),(39,.a (.v (.int .i64 (e.kids.length:Nat)))),(40,.a (.v (.int .i64 (y.1.1:Nat))))]) (fun y=>[.cell (Cs.at c),.cell (Me.at m),.cell [.fn 171 [.ptr 0 0,.ptr 1 0,.ptr 2 0]],.cell (Ex.at e),.cell (Ty.at Ty.zero)]) (fun y=>e.kids.length-y.1.1) ⟨(0,0),by omega,by omega,rfl⟩ (by simp only [qal,go_sem,simprocAttr];first|done|rfl) rfl ?_
  rintro⟨⟨k,u⟩,hk,hu,hinv⟩
  dsimp only at hk hu hinv ⊢
  by_cases hlt:k<e.kids.length
  ·have hlt2:decide ((k:Int)<((e.kids.length:Nat):Int))=true:=decide_eq_true (by omega)
   obtain⟨z,hz⟩:∃z,e.kids[k]? = some z:=⟨_,List.getElem?_eq_getElem hlt⟩
   have hzm:z∈e.kids:=lm4 hz
   have hzt:=qao hz
   have hix:∀q2,ixD (some 4) q2 (.a (.sl (e.kids.map Ex.at))) (.a (.v (.int .i64 (k:Int))))=some (.a (.ref (Ex.at z) 0)):=fun q2=>qaq rfl (by rw [List.getElem?_map,hz];rfl) (by simp only [go_sem])
   have hwu:=qap (k:=k) (by omega)
   have hwv:=qap (k:=u) (by omega)
   have hdr:e.kids.drop k=z::e.kids.drop (k+1):=by rw [List.drop_eq_getElem_cons hlt];congr 1;exact (List.getElem?_eq_some_iff.1 hz).2
   rw [hdr,shsT] at hinv
   have hIz:=IH z hzm
   generalize shT c m z=R at hIz hinv
   clear IH
   replace fx:=ai15 hlt2 (ai15 hix (ai15 hwu (ai15 hwv (ai15 tyZ trivial))))
   repeat' (first|refine stp [0,1,2,3,4,5,6,7,8,9,11,12,13,15,16,27,30,34,38,39,40,41,58,60,64,74] ?_|(refine stc (r1:=by first|exact pWant e.kind R.1|exact qbd R.1) (r2:=?_);refine rnx ?_)|(refine RS.cvM [0,1,2] (hp:=by exact hIz) (h:=?_);refine rnx ?_)|refine WP.cn (fun hc=>?_) (fun hc=>?_)|fail)
   ·refine qf2 ?_
    exact⟨by rw [hinv,if_pos (by assumption)],_,rfl⟩
   ·rename_i h4
    refine qf2 ?_
    exact⟨by rw [hinv,if_neg (by rw [h4];exact Bool.false_ne_true),if_pos hc],_,rfl⟩
   ·rename_i h5 h4
    rw [if_neg (by rw [h5];exact Bool.false_ne_true),if_neg (by rw [h4];exact Bool.false_ne_true),hc,Bool.or_true] at hinv
    refine⟨⟨(k+1,u+1),by dsimp only;omega,by dsimp only;omega,by rw [hinv,decide_eq_true (by dsimp only;omega)]⟩,_,by dsimp only;omega,by simp only [qal,go_sem,simprocAttr],rfl,by simp only [nrE,nrD,List.all_cons,List.all_nil,go_sem,simprocAttr],by simp only [go_sem,simprocAttr]⟩
   ·rename_i h5 h4
    rw [if_neg (by rw [h5];exact Bool.false_ne_true),if_neg (by rw [h4];exact Bool.false_ne_true),hc,Bool.or_false] at hinv
    refine⟨⟨(k+1,u),by dsimp only;omega,by dsimp only;omega,hinv⟩,_,by dsimp only;omega,by simp only [qal,go_sem,simprocAttr],rfl,by simp only [nrE,nrD,List.all_cons,List.all_nil,go_sem,simprocAttr],by simp only [go_sem,simprocAttr]⟩
  ·obtain rfl:k=e.kids.length:=by omega
   have hlt2:decide ((e.kids.length:Int)<(e.kids.length:Int))=false:=decide_eq_false (by omega)
   have hub:decide ((u:Int)>0)=decide (0<u):=by
    by_cases h:0<u
    ·rw [decide_eq_true h];exact decide_eq_true (by omega)
    ·rw [decide_eq_false h];exact decide_eq_false (by omega)
   rw [List.drop_length,shsT] at hinv
   clear IH
   replace fx:=ai15 hlt2 (ai15 tyZ (ai15 hub trivial))
   repeat' (first|refine stp [0,1,2,3,4,5,6,7,8,9,11,12,13,15,16,27,30,34,38,39,40,41,58,60,64,74] ?_|refine WP.cn (fun hc=>?_) (fun hc=>?_)|fail)
   ·refine qf2 ?_
    exact⟨by rw [hinv,if_pos hc],_,rfl⟩
   ·refine qf2 ?_
    exact⟨by rw [hinv,if_neg (by rw [hc];exact Bool.false_ne_true)];rfl,_,rfl⟩
def oneT (c:Cs) (m:Me) (e:Ex):Ty×Int:=if e.rightB=true then shT c m e else (Ty.zero,28)
theorem pShOf (c:Cs) (m:Me) (e:Ex) (hcp:c.params.length≤1048576) (ha:m.params.length≤1048576) (hb:m.locals.length≤1048576) (hz:e.sz≤1048576):qaa Tryz.prog 117 [.r (Cs.at c),.r (Me.at m),.r (Ex.at e)] (.t [.r (Ty.at (oneT c m e).1),.a (.v (.int .i64 (oneT c m e).2))]):=by
 have hq:=pShOf1 c m hcp ha hb _ e (Nat.le_refl _) hz
 unfold oneT
 generalize shT c m e=R at hq
 refine qaa.go Tryz.func117 rfl Tryz.ntmps117 rfl rfl rfl (fun C hro=>?_)
 have fx:=trivial
 replace fx:=ai15 tyZ trivial
 repeat' (first|refine stp [0,1,2,3,4,5,6,7,8,11] ?_|(refine stc (r1:=by exact qlr e hz) (r2:=?_);refine rnx ?_)|(refine RS.cvM [0,1,4] (hp:=by exact hq) (h:=?_);refine rnx ?_)|refine WP.cn (fun hc=>?_) (fun hc=>?_)|fail)
 ·rw [if_neg (by simpa using hc)]
 ·rw [if_pos (by simpa using hc)]
theorem qm0 (m:Me) (ha:m.params.length≤1048576) (hb:m.locals.length≤1048576):qaa Tryz.prog 35 [.r (Me.at m)] (.a (.sl ((m.params++m.locals).map Vr.at))):=by
 have hma:List.map Vr.at m.params++List.map Vr.at m.locals=(m.params++m.locals).map Vr.at:=List.map_append.symm
 refine qaa.go Tryz.func35 rfl Tryz.ntmps35 rfl rfl rfl (fun C hro=>?_)
 have fx:=trivial
 repeat' (first|(refine RWL.fin ?_;try simp only [qab,qac])|refine stp [0,1,2] ?_|refine RWL.fr ?_|refine RWL.l0 ?_|refine RWL.aO ?_|(refine' WP.dl (id:=1) [0,0,2,7,0,16,63,127] [0,1,2] [0,3,6] [(0,_),(3,_),(6,_)] ?_)|refine RWL.re ?_ ?_|refine RdO.oz|refine RdO.oe ?_|fail)
 rw [hma]
theorem varI_app (s:List UInt8) (m:Me):varI (m.params++m.locals) s=qaz m s:=by
 have key:∀(a b:List Vr) (k:Nat),ixOf (fun v:Vr=>v.name==s) (a++b) k=if ixOf (fun v:Vr=>v.name==s) a k≥0 then ixOf (fun v:Vr=>v.name==s) a k else ixOf (fun v:Vr=>v.name==s) b (k+a.length):=by
  intro a b
  induction a with
  | nil=>intro k;rw [List.nil_append,ixOf,if_neg (by decide)];rfl
  | cons x a ih =>
   intro k
   rw [List.cons_append,ixOf,ixOf]
   split
   ·rw [if_pos (by omega)]
   ·rw [ih (k+1),List.length_cons,show k+1+a.length=k+(a.length+1) by omega]
 have sh:∀(b:List Vr) (k d:Nat),ixOf (fun v:Vr=>v.name==s) b (k+d)=if ixOf (fun v:Vr=>v.name==s) b k<0 then -1 else ixOf (fun v:Vr=>v.name==s) b k+d:=by
  intro b
  induction b with
  | nil=>intro k d;rw [ixOf,ixOf,if_pos (by decide)]
  | cons x b ih =>
   intro k d
   rw [ixOf,ixOf]
   split
   ·rw [if_neg (by omega)];omega
   ·rw [show k+d+1=k+1+d by omega];exact ih (k+1) d
 unfold qaz varI
 rw [key]
 split
 ·rfl
 ·rw [sh m.locals 0 m.params.length]
  split
  ·rfl
  ·omega
theorem qkp (m:Me) (s:List UInt8) (ha:m.params.length≤1048576) (hb:m.locals.length≤1048576):qaa Tryz.prog 34 [.r (Me.at m),.a (.v (.string (bs s)))] (.a (.v (.int .i64 (qaz m s)))):=by
 have hv:=qm0 m ha hb
 have hlen:(m.params++m.locals).length≤2097152:=by rw [List.length_append];omega
 rw [←varI_app]
 generalize m.params++m.locals=l at hv hlen ⊢
 refine qaa.go Tryz.func34 rfl Tryz.ntmps34 rfl rfl rfl (fun C hro=>?_)
 have fx:=trivial
 repeat' (first|refine stp [0,1,2,4,5,6,12,21] ?_|(refine stc (r1:=by exact hv) (r2:=?_);refine rnx ?_)|fail)
 refine WP.loopX (α:={ k:Nat // k≤l.length∧(l.take k).any (fun v:Vr=>v.name==s)=false }) (fun y=>[(1,.a (.v (.string (bs s)))),(5,.a (.sl (l.map Vr.at))),(6,.a (.v (.int .i64 (y.1:Nat))))]) (fun _=>[.cell (Me.at m)]) (fun y=>l.length-y.1) ⟨0,by omega,rfl⟩ (by simp only [qal,go_sem,simprocAttr];first|done|rfl) rfl ?_
 rintro⟨k,hk,hinv⟩
 dsimp only
 by_cases hlt:k<l.length
 ·have hlt2:decide ((k:Int)<((l.length:Nat):Int))=true:=decide_eq_true (by omega)
  obtain⟨z,hz⟩:∃z,l[k]? = some z:=⟨_,List.getElem?_eq_getElem hlt⟩
  have hzm:z∈l:=lm4 hz
  have hzt:=qao hz
  have hix:∀q2,ixD (some 13) q2 (.a (.sl (l.map Vr.at))) (.a (.v (.int .i64 (k:Int))))=some (.a (.ref (Vr.at z) 0)):=fun q2=>qaq rfl (by rw [List.getElem?_map,hz];rfl) (by simp only [go_sem])
  have hwu:=qap (k:=k) (by omega)
  replace fx:=ai15 hlt2 (ai15 hix (ai15 hwu trivial))
  repeat' (first|refine stp [0,1,2,4,5,6,12,21] ?_|refine WP.cn (fun hc=>?_) (fun hc=>?_)|fail)
  ·exact qco (by rw [varI,qd5 _ l k 0 z hz hinv hc,Nat.zero_add])
  ·refine⟨⟨k+1,by omega,by rw [hzt,List.any_append,hinv];simpa using hc⟩,[],by dsimp only;omega,by simp only [qal,go_sem,simprocAttr],rfl,by simp only [nrE,nrD,List.all_cons,List.all_nil,go_sem,simprocAttr],by simp only [go_sem,simprocAttr,Me.nr]⟩
 obtain rfl:k=l.length:=by omega
 rw [List.take_length] at hinv
 have hlt2:decide ((l.length:Int)<(l.length:Int))=false:=decide_eq_false (by omega)
 replace fx:=ai15 hlt2 trivial
 repeat' (first|refine stp [0,1,2,4,5,6,12,21] ?_|fail)
 exact qco (by rw [varI,qb8 _ l 0 hinv])
theorem pr15This (c:Cs) (hc:c.params.length≤1048576):qaa Tryz.prog 43 [.r (Cs.at c)] (.a (.sl ((qbl c).map owAt))):=by
 have z1:=zrOw
 unfold qbl
 generalize hn:c.params.length=n at hc ⊢
 refine qaa.go Tryz.func43 rfl Tryz.ntmps43 rfl rfl rfl (fun C hro=>?_)
 have fx:=trivial
 replace fx:=ai15 z1 trivial
 repeat' (first|refine stp [0,1,2,3,4,11] ?_|(refine RS.li ?_;refine rnx ?_)|fail)
 refine WP.loopX (α:={ k:Nat // k≤n }) (fun y=>[(1,.a (.ptr 0 0)),(3,.a (.own 1 y.1)),(4,.a (.v (.int .i64 (y.1:Nat))))]) (fun y=>[.cell (Cs.at c),.arr y.1 2 ((((2,0)::(List.range y.1).map fun i=>(3,((i+1:Nat):Int))):List (Int×Int)).map owAt)]) (fun y=>n-y.1) ⟨0,by omega⟩ (by simp only [qal,go_sem,simprocAttr];first|done|rfl) rfl ?_
 rintro⟨k,hk⟩
 dsimp only
 have hkk:(k==k)=true:=beq_self_eq_true k
 by_cases hlt:k<n
 ·have hlt2:decide ((k:Int)<(n:Int))=true:=decide_eq_true (by omega)
  have hwu:=qap (k:=k) (by omega)
  have hrl:(((((2,0)::(List.range k).map fun i=>(3,((i+1:Nat):Int))):List (Int×Int)).map owAt)).length=k+1:=by simp
  have hrr:((((2,0)::(List.range k).map fun i=>(3,((i+1:Nat):Int))):List (Int×Int)).map owAt)++[[.v (.int .i64 3),.v (.int .i64 ((k+1:Nat):Int))]]=((((2,0)::(List.range (k+1)).map fun i=>(3,((i+1:Nat):Int))):List (Int×Int)).map owAt):=by rw [List.range_succ];simp [owAt]
  generalize ((((2,0)::(List.range k).map fun i=>(3,((i+1:Nat):Int))):List (Int×Int)).map owAt)=R at hrl hrr ⊢
  replace fx:=ai15 hlt2 (ai15 hwu (ai15 hn (ai15 z1 (ai15 hrl (ai15 hrr (ai15 hkk trivial))))))
  repeat' (first|refine stp [0,1,2,3,4,11] ?_|(refine RS.aO ?_;refine rnx ?_)|(refine RS.ls ?_;refine rnx ?_)|fail)
  refine⟨⟨k+1,by omega⟩,[],by dsimp only;omega,by simp only [qal,go_sem,simprocAttr],by first|rfl|(simp only [hrr,go_sem,simprocAttr];done)|(rw [←hrr];rfl),by simp only [nrE,nrD,List.all_cons,List.all_nil,go_sem,simprocAttr],by simp only [nrE,nrD,List.all_cons,List.all_nil,go_sem,simprocAttr,Cs.nr]⟩
 ·obtain rfl:k=n:=by omega
  have hlt2:decide ((k:Int)<(k:Int))=false:=decide_eq_false (by omega)
  replace fx:=ai15 hlt2 (ai15 hn (ai15 hkk trivial))
  repeat' (first|refine stp [0,1,2,3,4,11] ?_|fail)
  rfl
end Go.Proofs.YthkojpnjdpbcgaaGreatDoor
