/- Classes by their names, on plain data: table.Find, Arity, and the document's. Conditions: at most 2^20 classes. -/
import Derived.Test.YtibdalkdgjghoaaDoorMg13
import Derived.Test.YtibdalkdgjghoaaDoorMg18
import Derived.Test.YtibdalkdgjghoaaDoorMg30
set_option linter.unusedVariables false
set_option maxRecDepth 100000
set_option maxHeartbeats 8000000
set_option linter.unusedSimpArgs false
namespace Go.Proofs.YtibdalkdgjghoaaDoor
open Go.RowKit
def findI (p:List Cs) (s:List UInt8):Int:=ixOf (fun c:Cs=>c.name==s) p 0
theorem ixOf_get {α:Type} (q:α→Bool):∀(l:List α) (k:Nat),ixOf q l k = -1∨∃j z,l[j]? = some z∧q z=true∧ixOf q l k=((k+j:Nat):Int)
 | [],k=>.inl rfl
 | x::r,k=>by
  rw [ixOf]
  cases hx:q x
  ·rw [if_neg (by simp)]
   rcases ixOf_get q r (k+1) with h|⟨j,z,h1,h2,h3⟩
   ·exact .inl h
   ·exact .inr ⟨j+1,z,by simpa using h1,h2,by rw [h3];congr 1;omega⟩
  ·rw [if_pos rfl];exact .inr ⟨0,x,rfl,hx,rfl⟩
theorem findI_get (p:List Cs) (s:List UInt8):findI p s = -1∨∃(j:Nat) (z:Cs),p[j]? = some z∧z.name=s∧findI p s=(j:Int):=by
 rcases ixOf_get (fun c:Cs=>c.name==s) p 0 with h|⟨j,z,h1,h2,h3⟩
 ·exact .inl h
 ·exact .inr ⟨j,z,h1,by simpa using h2,by rw [findI,h3,Nat.zero_add]⟩
theorem ptFind1 (c:Cs) (s:List UInt8):DPure Tryd.prog 23 [.r (Cs.at c),.a (.ref [.v (.string (bs s))] 0)] (.a (.v (.bool (c.name==s)))):=by
 refine DPure.go Tryd.func23 rfl Tryd.ntmps23 rfl rfl rfl (fun C hro=>?_)
 have fx:=trivial
 repeat' (first|refine stp [0,1,2,3] ?_|fail)
 rfl
theorem ptFind (p:List Cs) (s:List UInt8) (hn:p.length≤2097152):DPure Tryd.prog 8 [.a (.sl (p.map Cs.at)),.a (.v (.string (bs s)))] (.a (.v (.int .i64 (findI p s)))):=by
 refine DPure.go Tryd.func8 rfl Tryd.ntmps8 rfl rfl rfl (fun C hro=>?_)
 have fx:=trivial
 repeat' (first|refine stp [0,1,3,4] ?_|(refine stc (r1:=by exact pIxClass (fun c=>c.name==s) p 23 [.ref [.v (.string (bs s))] 0] rfl hn (fun k _=>ptFind1 k s)) (r2:=?_);refine rnx ?_)|fail)
 rfl
@[go_sem] theorem tb_mMap:mT Tryd.prog 58=some (.str,false,[.v (.int .i64 0)]):=by kernel_rfl
@[go_sem] theorem tb_mNames:mT Tryd.prog 76=some (.str,false,[.v (.int .i64 0)]):=by kernel_rfl
@[go_sem] theorem tb_zChecker:zrow Tryd.prog 60=some [.sl [],.v (.map none),.v (.map none),.v (.int .i64 0),.v (.int .i64 0)]:=by kernel_rfl
@[go_sem] theorem tb_zPChecker:zrow Tryd.prog 57=some [.v (.pointer none)]:=by kernel_rfl
def ckAt (p:List Cs) (e a:Int):List A:=[.sl (p.map Cs.at),.mp 1,.mp 2,.v (.int .i64 e),.v (.int .i64 a)]
@[go_sem] theorem ckAt_e {p:List Cs} {e a:Int}:ckAt p e a=[.sl (p.map Cs.at),.mp 1,.mp 2,.v (.int .i64 e),.v (.int .i64 a)]:=rfl
theorem ptBad (p:List Cs) (e a e0 a0:Int) (M1 M2:List (Value×List A)) (h1:(M1.all fun e=>e.2.all (nrA 3))=true) (h2:(M2.all fun e=>e.2.all (nrA 3))=true):DM Tryd.prog 32 [.a (.ptr 0 0),.a (.v (.int .i64 e)),.a (.v (.int .i64 a))] [.cell (ckAt p e0 a0),.map .str false M1,.map .str false M2] (.a (.v (.bool false))) [.cell (ckAt p e a),.map .str false M1,.map .str false M2]:=by
 unfold ckAt
 refine DM.intro Tryd.func32 rfl Tryd.ntmps32 rfl rfl rfl (by simp only [go_sem,simprocAttr,h1,h2]) (fun V0 Kb Nx=>?_)
 have fx:=trivial
 repeat' (first|refine stp [0,1,2,6] ?_|(refine RS.sE ?_;refine rnx ?_)|fail)
 refine retM1 ?_
 exact⟨rfl,[],rfl⟩
def csA:Cs:=⟨[65],[],[66],[],[],[],0⟩
theorem ptHeadA:DM Tryd.prog 16 [.a (.ptr 0 0),.r (Cs.at csA)] [.cell (ckAt [csA] 0 0),.map .str false [(.string (bs [65]),[.v (.int .i64 0)])],.map .str false []] (.a (.v (.bool false))) [.cell (ckAt [csA] 8 0),.map .str false [(.string (bs [65]),[.v (.int .i64 0)])],.map .str false [(.string (bs [65]),[.v (.int .i64 1)])]]:=by
 have hnm:csA.name=[65]:=rfl
 have hsu:csA.super=[66]:=rfl
 have hpa:csA.params=[]:=rfl
 have hat:csA.at_=0:=rfl
 have hmz:mval [] (.string (bs [65])) [A.v (.int .i64 0)]=[.v (.int .i64 0)]:=rfl
 have hmo:mput [] (.string (bs [65])) [A.v (.int .i64 1)]=[(.string (bs [65]),[.v (.int .i64 1)])]:=by kernel_rfl
 have hmt:mval [(.string (bs [65]),[A.v (.int .i64 1)])] (.string (bs [65])) [.v (.int .i64 0)]=[.v (.int .i64 1)]:=by kernel_rfl
 have hmv:mval [(Value.string (bs [65]),[A.v (.int .i64 0)])] (.string (bs [66])) [.v (.int .i64 0)]=[.v (.int .i64 0)]:=by kernel_rfl
 have hmf:mhas [(Value.string (bs [65]),[A.v (.int .i64 0)])] (.string (bs [66]))=false:=by kernel_rfl
 have hne:(([66]:List UInt8)==[])=false:=rfl
 have hwo:IntKind.i64.wrap (0+1)=1:=by rfl
 unfold ckAt
 refine DM.intro Tryd.func16 rfl Tryd.ntmps16 rfl rfl rfl (by simp only [go_sem,simprocAttr]) (fun V0 Kb Nx=>?_)
 have fx:=trivial
 replace fx:=And.intro hnm (And.intro hsu (And.intro hpa (And.intro hat (And.intro hmz (And.intro hmo (And.intro hmt (And.intro hmv (And.intro hmf (And.intro hwo (And.intro hne trivial))))))))))
 repeat' (first|refine stp [0,1,3,4,5,7,8,9,20,21,22,23,29,42,49,60,67] ?_|(refine RS.mU ?_;refine rnx ?_)|(refine RS.mM ?_;refine rnx ?_)|(refine RS.lk ?_;refine rnx ?_)|(refine RS.lC ?_;refine rnx ?_)|(refine RS.xC ?_;refine rnx ?_)|(refine RS.cM [0,1,2] (hp:=by exact ptBad [csA] _ _ _ _ _ _ rfl rfl) (h:=?_);refine rnx ?_)|refine WP.cn (fun hc=>?_) (fun hc=>?_)|(refine RQ.lk ?_;refine rnx ?_)|((first|refine WP.dw (id:=1) 8 [0,1,3,4,5,7,8,9,20,21,22,23,29,42,49,60,67] ?_|refine WP.dw (id:=9) 8 [0,1,3,4,5,7,8,9,20,21,22,23,29,42,49,60,67] ?_|refine WP.dw (id:=13) 12 [0,1,3,4,5,7,8,9,20,21,22,23,29,42,49,60,67] ?_);simp only [RQr_mk,List.drop_succ_cons,List.drop_zero,List.drop_nil])|fail)
 refine WP.loop_in ?_
 refine WPIn.unroll ?_
 replace fx:=And.intro hnm (And.intro hsu (And.intro hpa (And.intro hat (And.intro hmz (And.intro hmo (And.intro hmt (And.intro hmv (And.intro hmf (And.intro hwo (And.intro hne trivial))))))))))
 repeat' (first|refine stp [0,1,3,4,5,7,8,9,20,21,22,23,29,42,49,60,67] ?_|(refine RS.mU ?_;refine rnx ?_)|(refine RS.mM ?_;refine rnx ?_)|(refine RS.lk ?_;refine rnx ?_)|(refine RS.lC ?_;refine rnx ?_)|(refine RS.xC ?_;refine rnx ?_)|(refine RS.cM [0,1,2] (hp:=by exact ptBad [csA] _ _ _ _ _ _ rfl rfl) (h:=?_);refine rnx ?_)|refine WP.cn (fun hc=>?_) (fun hc=>?_)|(refine RQ.lk ?_;refine rnx ?_)|((first|refine WP.dw (id:=1) 8 [0,1,3,4,5,7,8,9,20,21,22,23,29,42,49,60,67] ?_|refine WP.dw (id:=9) 8 [0,1,3,4,5,7,8,9,20,21,22,23,29,42,49,60,67] ?_|refine WP.dw (id:=13) 12 [0,1,3,4,5,7,8,9,20,21,22,23,29,42,49,60,67] ?_);simp only [RQr_mk,List.drop_succ_cons,List.drop_zero,List.drop_nil])|fail)
 refine retM1 ?_
 exact⟨rfl,_,rfl⟩
theorem csA_right:rightB [csA]=true:=by decide
theorem csA_sz:sumOf Cs.sz [csA]≤2097152:=by decide
theorem pBwdC (l:List Cs):DPure Tryd.prog 15 [.a (.sl (l.map Cs.at))] (.a (.fn 30 [.ref [.sl (l.map Cs.at)] 0])):=by
 refine DPure.go Tryd.func15 rfl Tryd.ntmps15 rfl rfl rfl (fun C hro=>?_)
 have fx:=trivial
 repeat' (first|refine WP.seq ?_|(refine WP.reg [0,1,2] (by kernel_rfl) (by kernel_rfl) ?_;refine RS.run2 (by simp only [go_sem,simprocAttr,thenQ_n];first|done|rfl) ?_;simp only [RSr_mk])|(first|refine RS.finT (by simp only [go_sem,simprocAttr];first|done|rfl) ?_|refine RS.fin (by simp only [go_sem,simprocAttr];first|done|rfl) ?_;(try simp only [thenQ_n,blockQ_n])))
 refine WP.freeze 0 [.sl (l.map Cs.at)] [(2,.a (.fn 30 [.ref [.sl (l.map Cs.at)] 0]))] rfl rfl ?_ ?_
 ·simp only [Agree,go_sem,simprocAttr]
 refine WP.ret ?_;(try simp only [thenQ_r,blockQ_r]);refine ret1 rfl (by simp only [go_sem,simprocAttr,thenQ_n];first|done|rfl) (by simp only [go_sem,thenQ_n]) ?_
 rfl
theorem pBwdC1 (l:List Cs) (hl:l.length≤2097152):DIt Tryd.prog 30 [.ref [.sl (l.map Cs.at)] 0] (bwdL Cs.at l):=by
 intro E hE
 have hbl:(bwdL Cs.at l).length=l.length:=by simp [bwdL]
 have hw0:IntKind.i64.wrap ((l.length:Nat)-1:Int)=(l.length:Int)-1:=wrap64 (by omega) (by omega)
 refine DG.intro Tryd.func30 rfl Tryd.ntmps30 rfl rfl rfl (fun V0 Kb Nx=>?_)
 repeat' (first|refine WP.seq ?_|(refine WP.reg (1000000::[0,1,3,8,18]) (by kernel_rfl) (by kernel_rfl) ?_;refine RS.run2 (by simp only [go_sem,simprocAttr,hw0];first|done|rfl) ?_;simp only [RSr_mk])|(first|refine RS.finT (by simp only [go_sem,simprocAttr];first|done|rfl) ?_|refine RS.fin (by simp only [go_sem,simprocAttr];first|done|rfl) ?_;(try simp only [thenQ_n,blockQ_n]))|refine WP.block ?_)
 refine WP.loop (α:={ k:Nat // k≤l.length }) (fun y=>[(0,yv E.l),(1,.a (.ref [.sl (l.map Cs.at)] 0)),(3,.a (.v (.int .i64 ((l.length:Int)-1-(y.1:Nat))))),(1000000,.a (.v (.int .i64 (y.1:Nat))))]) (fun _=>[]) (fun y=>l.length-y.1) ⟨0,by omega⟩ (by simp only [Agree,go_sem,simprocAttr];first|done|simp) rfl ?_
 rintro⟨k,hk⟩
 dsimp only
 by_cases hlt:k<l.length
 ·have hge:decide ((l.length:Int)-1-(k:Nat)≥0)=true:=decide_eq_true (by omega)
  have hj:(l.length:Int)-1-(k:Nat)=((l.length-1-k:Nat):Int):=by omega
  obtain⟨z,hz⟩:∃z,l[l.length-1-k]? = some z:=⟨_,List.getElem?_eq_getElem (by omega)⟩
  have hix:∀q2,ixD (some 7) q2 (.a (.sl (l.map Cs.at))) (.a (.v (.int .i64 ((l.length-1-k:Nat):Int))))=some (.a (.ref (Cs.at z) 0)):=fun q2=>ixD_at rfl (by rw [List.getElem?_map,hz];rfl) (by simp only [go_sem])
  have hw1:IntKind.i64.wrap (((l.length-1-k:Nat):Int)-1)=(l.length:Int)-1-((k+1:Nat):Int):=(wrap64 (by omega) (by omega)).trans (by omega)
  have hgs:decide (((l.length-1-k:Nat):Int)≥0)=true:=decide_eq_true (by omega)
  rw [hj]
  repeat' (first|refine WP.seq ?_|(refine WP.reg (1000000::[0,1,3,8,18]) (by kernel_rfl) (by kernel_rfl) ?_;refine RS.run2 (by simp only [go_sem,simprocAttr,hix,hw1,hgs];first|done|rfl) ?_;simp only [RSr_mk])|(first|refine RS.finT (by simp only [go_sem,simprocAttr];first|done|rfl) ?_|refine RS.fin (by simp only [go_sem,simprocAttr];first|done|rfl) ?_;(try simp only [thenQ_n,blockQ_n]))|refine WP.block ?_|((refine WP.cond rfl (by simp only [go_sem,simprocAttr,hgs];first|done|rfl) (fun hc=>?_) (fun hc=>?_))<;>try exact Bool.noConfusion hc)|(refine WP.skip ?_;(try simp only [thenQ_n,blockQ_n]))|(refine WP.exit ?_;(try simp only [thenQ_e,blockQ_e,blockQ_o,ne_eq,Nat.reduceEqDiff,not_false_eq_true,reduceCtorEq,thenQ_n,blockQ_n]))|(refine RS.yield (by simp only [go_sem,simprocAttr,hix];first|done|rfl) (by simp only [go_sem,simprocAttr,hix];first|done|rfl) (by simp only [go_sem,simprocAttr,hix];first|done|rfl) (by simp only [go_sem,simprocAttr,List.all_cons,List.all_nil,Bool.and_true,hix];first|done|rfl) (by rw [hE];exact bwdL_at Cs.at l hlt hz) ?_ ?_;all_goals refine RS.run2 (by simp only [go_sem,simprocAttr,hix];first|done|rfl) ?_;simp only [RSr_mk])|(refine WP.ret ?_;(try simp only [thenQ_r,blockQ_r]);(first|refine retG0 ?_|refine retG1 rfl (by simp only [go_sem,simprocAttr,hix];first|done|rfl) ?_);simp only [go_sem,simprocAttr,hix]))
  ·refine⟨⟨k+1,by omega⟩,by dsimp only;omega,?_,rfl⟩
   simp only [Agree,go_sem,simprocAttr,and_true,and_self]
  ·exact .inr trivial
 ·obtain rfl:k=l.length:=by omega
  have hge:decide ((l.length:Int)-1-(l.length:Nat)≥0)=false:=decide_eq_false (by omega)
  repeat' (first|refine WP.seq ?_|(refine WP.reg (1000000::[0,1,3,8,18]) (by kernel_rfl) (by kernel_rfl) ?_;refine RS.run2 (by simp only [go_sem,simprocAttr,hge];first|done|rfl) ?_;simp only [RSr_mk])|(first|refine RS.finT (by simp only [go_sem,simprocAttr];first|done|rfl) ?_|refine RS.fin (by simp only [go_sem,simprocAttr];first|done|rfl) ?_;(try simp only [thenQ_n,blockQ_n]))|refine WP.block ?_|((refine WP.cond rfl (by simp only [go_sem,simprocAttr,hge];first|done|rfl) (fun hc=>?_) (fun hc=>?_))<;>try exact Bool.noConfusion hc)|(refine WP.skip ?_;(try simp only [thenQ_n,blockQ_n]))|(refine WP.exit ?_;(try simp only [thenQ_e,blockQ_e,blockQ_o,ne_eq,Nat.reduceEqDiff,not_false_eq_true,reduceCtorEq,thenQ_n,blockQ_n]))|(refine WP.ret ?_;(try simp only [thenQ_r,blockQ_r]);(first|refine retG0 ?_|refine retG1 rfl (by simp only [go_sem,simprocAttr,hge];first|done|rfl) ?_);simp only [go_sem,simprocAttr,hge]))
  exact retG0n (.inl (by simp only [go_sem,hbl]))
theorem ptCheckA:DPure Tryd.prog 5 [.a (.sl ([csA].map Cs.at))] (.r [.v (.int .i64 8),.v (.int .i64 0)]):=by
 refine DPure.goV Tryd.func5 rfl Tryd.ntmps5 rfl rfl rfl (fun C hro hCV=>?_)
 have fx:=trivial
 have hri:=csA_right
 replace fx:=And.intro hri trivial
 repeat' (first|refine stp [0,2,3,5,7,10,18,19,20,30,31,32,33,59] ?_|(refine RS.sE ?_;refine rnx ?_)|(refine RS.mU ?_;refine rnx ?_)|(refine RS.mM ?_;refine rnx ?_)|(refine RS.pk ?_;refine rnx ?_)|(refine RS.gF ?_;refine rnx ?_)|(refine RS.lC ?_;refine rnx ?_)|(refine RS.xC ?_;refine rnx ?_)|(refine stc (r1:=by first|exact pzRight [csA] csA_sz|exact pBwdC [csA]) (r2:=?_);refine rnx ?_)|refine WP.cn (fun hc=>?_) (fun hc=>?_)|((first|refine WP.dw (id:=6) 9 [0,2,3,5,7,10,18,19,20,30,31,32,33,59] ?_);simp only [RQr_mk,List.drop_succ_cons,List.drop_zero,List.drop_nil])|fail)
 have hmo:mput [] (.string (bs [65])) [A.v (.int .i64 0)]=[(.string (bs [65]),[.v (.int .i64 0)])]:=by kernel_rfl
 have hnm:csA.name=[65]:=rfl
 have hpa:csA.params=[]:=rfl
 refine WP.range2 [(0,.a (.sl ([csA].map Cs.at))),(2,.a (.ptr 0 0)),(3,.a (.ptr 4 0))]
  (fun k=>[.cell [.v (.int .i64 0),.v (.int .i64 0)],.map .str false (if k=0 then [] else [(.string (bs [65]),[.v (.int .i64 0)])]),.map .str false [],.cell [.sl [csA.at],.mp 1,.mp 2,.v (.int .i64 0),.v (.int .i64 0)],.cell [.ptr 3 0]])
  [] (bwdL Cs.at [csA]) (fun _=>.junk) (fun _=>True) trivial hro (by simp only [go_sem,simprocAttr]) rfl ?_ rfl (.inl rfl) (.inl rfl) rfl rfl (by rw [hCV];exact Nat.zero_le _) (fun _=>Nat.le_refl _) (fun k=>by cases k<;>rfl) rfl (by simp only [go_sem,simprocAttr]<;>rfl) rfl rfl (pBwdC1 [csA] (by decide)).toM (.inl rfl) rfl (fun k xs hx=>?_) (fun C1 k xs hCE hon hx _=>?_) (fun _=>?_)
 ·simp only [Agree,go_sem,simprocAttr]
 ·obtain⟨z,_,rfl⟩:=bwdL_get hx
  rfl
 ·obtain⟨z,hz,rfl⟩:=bwdL_get hx
  obtain rfl:k=0:=by have:=(List.getElem?_eq_some_iff.1 hz).1;simpa using this
  obtain rfl:csA=z:=by simpa using hz
  simp only [bindE_2]
  replace fx:=And.intro hmo (And.intro hnm (And.intro hpa trivial))
  repeat' (first|refine stp [0,2,3,5,7,10,18,19,20,30,31,32,33,59] ?_|(refine RS.sE ?_;refine rnx ?_)|(refine RS.mU ?_;refine rnx ?_)|(refine RS.mM ?_;refine rnx ?_)|(refine RS.pk ?_;refine rnx ?_)|(refine RS.gF ?_;refine rnx ?_)|(refine RS.lC ?_;refine rnx ?_)|(refine RS.xC ?_;refine rnx ?_)|refine WP.cn (fun hc=>?_) (fun hc=>?_)|((first|refine WP.dw (id:=6) 9 [0,2,3,5,7,10,18,19,20,30,31,32,33,59] ?_);simp only [RQr_mk,List.drop_succ_cons,List.drop_zero,List.drop_nil])|fail)
  intro C2 _ _
  replace fx:=And.intro hmo (And.intro hnm (And.intro hpa trivial))
  repeat' (first|refine stp [0,2,3,5,7,10,18,19,20,30,31,32,33,59] ?_|(refine RS.sE ?_;refine rnx ?_)|(refine RS.mU ?_;refine rnx ?_)|(refine RS.mM ?_;refine rnx ?_)|(refine RS.pk ?_;refine rnx ?_)|(refine RS.gF ?_;refine rnx ?_)|(refine RS.lC ?_;refine rnx ?_)|(refine RS.xC ?_;refine rnx ?_)|refine WP.cn (fun hc=>?_) (fun hc=>?_)|((first|refine WP.dw (id:=6) 9 [0,2,3,5,7,10,18,19,20,30,31,32,33,59] ?_);simp only [RQr_mk,List.drop_succ_cons,List.drop_zero,List.drop_nil])|fail)
  exact⟨trivial,by simp only [go_sem,simprocAttr],_,rfl⟩
 ·have hlen1:(bwdL Cs.at [csA]).length=1:=rfl
  have hix:∀q2,ixD (some 7) q2 (.a (.sl [csA.at])) (.a (.v (.int .i64 0)))=some (.a (.ref (Cs.at csA) 0)):=fun q2=>ixD_at rfl rfl (by simp only [go_sem])
  rw [hlen1]
  rw [if_neg (by decide)]
  replace fx:=And.intro hnm (And.intro hpa (And.intro hix trivial))
  repeat' (first|refine stp [0,2,3,5,7,10,18,19,20,30,31,32,33,59] ?_|(refine RS.sE ?_;refine rnx ?_)|(refine RS.mU ?_;refine rnx ?_)|(refine RS.mM ?_;refine rnx ?_)|(refine RS.pk ?_;refine rnx ?_)|(refine RS.gF ?_;refine rnx ?_)|(refine RS.lC ?_;refine rnx ?_)|(refine RS.xC ?_;refine rnx ?_)|refine WP.cn (fun hc=>?_) (fun hc=>?_)|((first|refine WP.dw (id:=6) 9 [0,2,3,5,7,10,18,19,20,30,31,32,33,59] ?_);simp only [RQr_mk,List.drop_succ_cons,List.drop_zero,List.drop_nil])|fail)
  refine WP.loop_in ?_
  refine WPIn.unroll ?_
  replace fx:=And.intro hnm (And.intro hpa (And.intro hix trivial))
  repeat' (first|refine stp [0,2,3,5,7,10,18,19,20,30,31,32,33,59] ?_|(refine RS.sE ?_;refine rnx ?_)|(refine RS.mU ?_;refine rnx ?_)|(refine RS.mM ?_;refine rnx ?_)|(refine RS.pk ?_;refine rnx ?_)|(refine RS.gF ?_;refine rnx ?_)|(refine RS.lC ?_;refine rnx ?_)|(refine RS.xC ?_;refine rnx ?_)|(refine RS.cM [3,1,2] (hp:=by exact ptHeadA) (h:=?_);refine rnx ?_)|(refine RS.cvM [3,1,2] (hp:=by exact ptHeadA) (h:=?_);refine rnx ?_)|refine WP.cn (fun hc=>?_) (fun hc=>?_)|((first|refine WP.dw (id:=6) 9 [0,2,3,5,7,10,18,19,20,30,31,32,33,59] ?_);simp only [RQr_mk,List.drop_succ_cons,List.drop_zero,List.drop_nil])|fail)
  all_goals rfl
end Go.Proofs.YtibdalkdgjghoaaDoor
